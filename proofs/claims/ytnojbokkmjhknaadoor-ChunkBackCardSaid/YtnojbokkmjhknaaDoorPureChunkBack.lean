/- The law ChunkBack is true for every input: what is put in chunks is got, whatever stands behind it; cut off anywhere, a beginning of it is told, and that it was cut off; what is told stays, when more bytes come. No condition beyond the row's own. -/
import Derived.Test.YtnojbokkmjhknaaDoorPChunkBackx6
import Derived.Test.YtnojbokkmjhknaaDoorStr
set_option linter.unusedVariables false
set_option linter.unusedSimpArgs false
namespace Go.Proofs.YtnojbokkmjhknaaDoor.Pure
open Go Go.RowKit Go.Proofs.YtnojbokkmjhknaaDoor.PChunkBack Go.Proofs.YtnojbokkmjhknaaDoorW.PrintWords Go.Proofs.YtnojbokkmjhknaaDoorW.PrintLast Go.Proofs.YtnojbokkmjhknaaDoorW.PrintMore Go.Proofs.YtnojbokkmjhknaaDoor.Kit Go.Proofs.YtnojbokkmjhknaaDoor.Str

theorem text_Cut_eq {c : Int} (hc : 0 ≤ c ∧ c < 256) {l : List Int} (hl : Bs l) (hn : l.length ≤ 140737488351232) :
    text_Cut.f (strOfNums l) c = some (match cutL c l with | none => (strOfNums l, strOfNums [], false) | some (a, b) => (strOfNums a, strOfNums b, true)) := by
  unfold text_Cut.f strings_IndexByte.f
  rw [nums_index c hc hl, Option.bind_some, nums_size]
  cases h : cutL c l with
  | none => rfl
  | some p =>
    obtain ⟨a, b⟩ := p
    obtain ⟨e, _⟩ := cutL_some h
    have hlen : l.length = a.length + (b.length + 1) := by rw [e]; simp
    simp only
    rw [if_neg (by omega), if_pos (by omega), if_pos (by omega), w64 (by omega) (by omega), if_pos (by omega), if_pos (by omega), nums_ext, nums_ext]
    have h1 : ((a.length : Int)).toNat = a.length := by omega
    have h2 : ((a.length : Int) + 1).toNat = a.length + 1 := by omega
    have e1 : (l.take a.length).drop 0 = a := by rw [e]; simp
    have e2 : (l.take l.length).drop (a.length + 1) = b := by
      rw [List.take_length, e, show a ++ c :: b = (a ++ [c]) ++ b by simp, List.drop_left' (by simp)]
    rw [h1, h2, e1, e2]

/-! ### the first line's end, in a list of numbers -/
def cutW : List Int → Option (List Int × List Int)
  | [] => none
  | [_] => none
  | x :: y :: l => if x = 13 ∧ y = 10 then some ([], l) else (cutW (y :: l)).map fun p => (x :: p.1, p.2)
theorem cutW_app {r : List Int} : ∀ {l a b : List Int}, cutW l = some (a, b) → cutW (l ++ r) = some (a, b ++ r)
  | [], _, _, h => by cases h
  | [_], _, _, h => by cases h
  | x :: y :: l, a, b, h => by
    rw [cutW] at h
    show cutW (x :: y :: (l ++ r)) = _
    rw [cutW]
    by_cases c : x = 13 ∧ y = 10
    · rw [if_pos c] at h ⊢
      cases h
      rfl
    · rw [if_neg c] at h ⊢
      obtain ⟨⟨a', b'⟩, h1, h2⟩ := Option.map_eq_some_iff.mp h
      cases h2
      have := cutW_app (r := r) h1
      rw [show y :: (l ++ r) = (y :: l) ++ r from rfl, this]
      rfl
theorem cutW_some : ∀ {l a b : List Int}, cutW l = some (a, b) → l = a ++ 13 :: 10 :: b
  | [], _, _, h => by cases h
  | [_], _, _, h => by cases h
  | x :: y :: l, a, b, h => by
    rw [cutW] at h
    by_cases c : x = 13 ∧ y = 10
    · rw [if_pos c] at h
      cases h
      rw [c.1, c.2]
      rfl
    · rw [if_neg c] at h
      obtain ⟨⟨a', b'⟩, h1, h2⟩ := Option.map_eq_some_iff.mp h
      cases h2
      rw [cutW_some h1]
      rfl
theorem u8_eq {x : Int} (hx : 0 ≤ x ∧ x < 256) (b : UInt8) : (b == x.toNat.toUInt8) = decide (x = (b.toNat : Int)) := by
  have hb := b.toNat_lt
  by_cases h : x = (b.toNat : Int)
  · subst h; simp
  · rw [decide_eq_false h, beq_eq_false_iff_ne]
    intro e
    have := congrArg UInt8.toNat e
    simp only [Nat.toUInt8, UInt8.toNat_ofNat'] at this
    omega
theorem index_W : ∀ (l : List Int), Bs l → Lib.index (l.map fun y => y.toNat.toUInt8) [13, 10] = match cutW l with | none => -1 | some (a, _) => (a.length : Int)
  | [], _ => rfl
  | [x], h => by
    rw [cutW, List.map_cons, List.map_nil, Lib.index, Lib.index]
    have : List.isPrefixOf [13, 10] [x.toNat.toUInt8] = false := by simp [List.isPrefixOf]
    rw [this]
    rfl
  | x :: y :: l, h => by
    have hp : List.isPrefixOf [13, 10] ((x :: y :: l).map fun y => y.toNat.toUInt8) = decide (x = 13 ∧ y = 10) := by
      simp only [List.map_cons, List.isPrefixOf, Bool.and_true]
      rw [u8_eq h.head, u8_eq h.tail.head]
      simp
    rw [List.map_cons, Lib.index, ← List.map_cons (f := fun y : Int => y.toNat.toUInt8), hp, index_W (y :: l) h.tail, cutW]
    by_cases c : x = 13 ∧ y = 10
    · rw [decide_eq_true c, if_pos rfl, if_pos c]
      rfl
    · rw [decide_eq_false c, if_neg (by decide), if_neg c]
      cases hq : cutW (y :: l) with
      | none => rfl
      | some p =>
        obtain ⟨a, b⟩ := p
        simp only [Option.map_some]
        rw [if_neg (by simp <;> omega)]
        simp
theorem strings_IndexW {l : List Int} (hl : Bs l) (hn : l.length ≤ 100000) : strings_Index.f (strOfNums l) (⟨#[13, 10]⟩ : ByteArray) = some (match cutW l with | none => -1 | some (a, _) => (a.length : Int)) := by
  unfold strings_Index.f stringslite_Index.f
  rw [nums_size, if_pos (by omega), Option.bind_some, nums_data, show (⟨#[13, 10]⟩ : ByteArray).data.toList = [13, 10] from rfl, index_W l hl]

theorem dw_nil {α : Type} (p : α → Bool) : ∀ l : List α, l.dropWhile p = [] ↔ ∀ x ∈ l, p x = true
  | [] => by simp
  | x :: l => by
    rw [List.dropWhile_cons]
    by_cases h : p x = true
    · rw [if_pos h, dw_nil p l]
      constructor
      · intro hl y hy
        rcases List.mem_cons.mp hy with rfl | hy
        · exact h
        · exact hl y hy
      · intro hl y hy
        exact hl y (List.mem_cons_of_mem _ hy)
    · rw [if_neg h]
      constructor
      · intro e; cases e
      · intro hl; exact absurd (hl x (List.mem_cons_self ..)) h
theorem dw_head {α : Type} (p : α → Bool) : ∀ (l : List α) {x : α} {r : List α}, l.dropWhile p = x :: r → p x = false
  | [], _, _, h => by cases h
  | y :: l, x, r, h => by
    rw [List.dropWhile_cons] at h
    by_cases hy : p y = true
    · rw [if_pos hy] at h; exact dw_head p l h
    · rw [if_neg hy] at h
      cases h
      simpa using hy
theorem trimS_nil (l cs : List UInt8) : Lib.trimS l cs = [] ↔ ∀ x ∈ l, cs.contains x = true := by
  unfold Lib.trimS Lib.trimLeftS Lib.trimRightS
  constructor
  · intro h
    rw [dw_nil] at h
    cases hn : l.reverse.dropWhile (cs.contains ·) with
    | nil =>
      rw [dw_nil] at hn
      intro x hx
      exact hn x (List.mem_reverse.mpr hx)
    | cons x r =>
      have h1 := dw_head _ _ hn
      have h2 := h x (List.mem_reverse.mpr (by rw [hn]; exact List.mem_cons_self ..))
      rw [h2] at h1
      cases h1
  · intro h
    have : l.reverse.dropWhile (cs.contains ·) = [] := (dw_nil _ _).mpr fun x hx => h x (List.mem_reverse.mp hx)
    rw [this]
    rfl
theorem trim_all {l : List Int} (hl : Bs l) (cs : List UInt8) : ∀ x ∈ l, cs.contains x.toNat.toUInt8 = (cs.map fun b => (b.toNat : Int)).contains x := by
  intro x hx
  have := hl x hx
  rw [Bool.eq_iff_iff, List.contains_iff_mem, List.contains_iff_mem, List.mem_map]
  constructor
  · intro h
    exact ⟨_, h, by simp only [Nat.toUInt8, UInt8.toNat_ofNat']; omega⟩
  · rintro ⟨b, hb, e⟩
    have : x.toNat.toUInt8 = b := by rw [← e]; simp
    rwa [this]

/-! ### text: Trim -/
def blankB (x : Int) : Bool := ([32, 9] : List UInt8).contains x.toNat.toUInt8
def trL (l : List Int) : List Int := l.dropWhile blankB
def trR (l : List Int) : List Int := (l.reverse.dropWhile blankB).reverse
theorem trL_cons (x : Int) (l : List Int) : trL (x :: l) = if blankB x = true then trL l else x :: l := by
  unfold trL
  rw [List.dropWhile_cons]
theorem trR_cons (x : Int) (l : List Int) : trR (x :: l) = if trR l = [] then (if blankB x = true then [] else [x]) else x :: trR l := by
  unfold trR
  rw [List.reverse_cons, List.dropWhile_append]
  cases h : l.reverse.dropWhile blankB with
  | nil =>
    by_cases hb : blankB x = true <;> simp [hb]
  | cons y r =>
    rw [if_neg (by simp), if_neg (by simp), List.reverse_append]
    rfl
theorem trLR : ∀ l : List Int, trL (trR l) = trR (trL l)
  | [] => rfl
  | x :: l => by
    rw [trR_cons, trL_cons]
    by_cases hx : blankB x = true
    · rw [if_pos hx, if_pos hx, ← trLR l]
      by_cases h : trR l = []
      · rw [if_pos h, h]
      · rw [if_neg h, trL_cons, if_pos hx]
    · rw [if_neg hx, if_neg hx, trR_cons, if_neg hx]
      by_cases h : trR l = []
      · rw [if_pos h, trL_cons, if_neg hx]
      · rw [if_neg h, trL_cons, if_neg hx]
theorem trLL : ∀ l : List Int, trL (trL l) = trL l
  | [] => rfl
  | x :: l => by
    rw [trL_cons]
    by_cases hx : blankB x = true
    · rw [if_pos hx, trLL l]
    · rw [if_neg hx, trL_cons, if_neg hx]
theorem trRR (l : List Int) : trR (trR l) = trR l := by
  unfold trR
  rw [List.reverse_reverse]
  exact congrArg List.reverse (trLL l.reverse)
theorem tr_tr (l : List Int) : trL (trR (trL (trR l))) = trL (trR l) := by
  rw [← trLR (trR l), trRR, trLL]
theorem trL_sub : ∀ {l : List Int} {x : Int}, x ∈ trL l → x ∈ l
  | [], _, h => by cases h
  | y :: l, x, h => by
    rw [trL_cons] at h
    split at h
    · exact List.mem_cons_of_mem _ (trL_sub h)
    · exact h
theorem trR_sub {l : List Int} {x : Int} (h : x ∈ trR l) : x ∈ l := by
  unfold trR at h
  exact List.mem_reverse.mp (trL_sub (l := l.reverse) (List.mem_reverse.mp h))
theorem trL_len : ∀ l : List Int, (trL l).length ≤ l.length
  | [] => by simp [trL]
  | y :: l => by
    have := trL_len l
    rw [trL_cons]
    split <;> simp <;> omega
theorem trR_len (l : List Int) : (trR l).length ≤ l.length := by
  have := trL_len l.reverse
  unfold trR
  unfold trL at this
  simpa using this
theorem trL_Bs {l : List Int} (h : Bs l) : Bs (trL l) := fun x hx => h x (trL_sub hx)
theorem trR_Bs {l : List Int} (h : Bs l) : Bs (trR l) := fun x hx => h x (trR_sub hx)
theorem trims_map (l : List Int) : Lib.trimS (l.map fun y => y.toNat.toUInt8) [32, 9] = (trL (trR l)).map fun y => y.toNat.toUInt8 := by
  unfold Lib.trimS Lib.trimLeftS Lib.trimRightS trL trR
  rw [← List.map_reverse, List.dropWhile_map, ← List.map_reverse, List.dropWhile_map]
  rfl
theorem text_Trim_eq {l : List Int} (hn : l.length ≤ 140737488351232) : text_Trim.f (strOfNums l) = some (strOfNums (trL (trR l))) := by
  unfold text_Trim.f strings_Trim.f
  rw [nums_size, if_pos ⟨by omega, by decide, by decide⟩, Option.bind_some, nums_data]
  have : (⟨#[32, 9]⟩ : ByteArray).data.toList = [32, 9] := rfl
  rw [this, trims_map]
  rfl

/-! ### text: Token, Plain -/
def signB (c : Int) : Bool := (text_sign.f c).getD false
theorem sign_all : ∀ c : Fin 256, text_sign.f (c.val : Int) = some (signB (c.val : Int)) := by decide +kernel
theorem sign_eq {c : Int} (h : 0 ≤ c ∧ c < 256) : text_sign.f c = some (signB c) := by
  obtain ⟨n, rfl⟩ := Int.eq_ofNat_of_zero_le h.1
  exact sign_all ⟨n, by omega⟩
theorem text_all_sign_l {l : List Int} (hl : Bs l) (hn : l.length < 90000) : ∀ (t p : List Int) (k : Nat), l = p ++ t → t.length < k → text_all_text_sign.l0 k (strOfNums l) (l.length : Int) (p.length : Int) = some (t.all signB) := by
  intro t
  induction t with
  | nil =>
    intro p k e hk
    obtain ⟨k, rfl⟩ : ∃ m, k = m + 1 := ⟨k - 1, by simp at hk; omega⟩
    simp only [text_all_text_sign.l0]
    rw [if_neg (by rw [e]; simp)]
    rfl
  | cons c t ih =>
    intro p k e hk
    obtain ⟨k, rfl⟩ : ∃ m, k = m + 1 := ⟨k - 1, by simp at hk; omega⟩
    have hlen : l.length = p.length + (t.length + 1) := by rw [e]; simp
    have hc : rd l (p.length : Int) = c := by rw [e]; exact rd_app p t c
    have bc : 0 ≤ c ∧ c < 256 := hl c (by rw [e]; simp)
    have hi := ih (p ++ [c]) k (by simpa using e) (by simp at hk; omega)
    have hcast : (((p ++ [c]).length : Nat) : Int) = (p.length : Int) + 1 := by simp
    rw [hcast] at hi
    simp only [text_all_text_sign.l0]
    rw [nums_size, if_pos (by omega), if_pos (by omega), if_pos (by omega), nums_bt hl, hc, sign_eq bc, Option.bind_some, w64 (by omega) (by omega), List.all_cons, hi]
    cases signB c
    · rw [if_neg (by decide)]; rfl
    · rw [if_pos rfl]; rfl
def tokenB (l : List Int) : Bool := decide (l ≠ []) && l.all signB
theorem text_Token_eq {k : Nat} {l : List Int} (hl : Bs l) (hn : l.length < 90000) (hk : 100000 < k) : text_Token.f k (strOfNums l) = some (tokenB l) := by
  unfold text_Token.f text_all_text_sign.f tokenB
  rw [nums_ifl hl, nums_size]
  by_cases h : l = []
  · rw [if_pos (by rw [h]; rfl), h]; rfl
  · have := text_all_sign_l hl hn l [] k rfl (by omega)
    rw [if_neg (fun e => h (by simpa using e)), show ((0 : Int)) = (([] : List Int).length : Int) from rfl, this, Option.bind_some, decide_eq_true h, Bool.true_and]

/-! ### text: small, Same, Cut -/
def smallI (c : Int) : Int := if 65 ≤ c ∧ c ≤ 90 then c + 32 else c
theorem text_small_eq {c : Int} (h : 0 ≤ c ∧ c < 256) : text_small.f c = some (smallI c) := by
  unfold text_small.f smallI
  by_cases h1 : c ≥ 65
  · by_cases h2 : c ≤ 90
    · rw [if_pos h1, if_pos h2, if_pos ⟨h1, h2⟩]; congr 1; omega
    · rw [if_pos h1, if_neg h2, if_neg (by omega)]
  · rw [if_neg h1, if_neg (by omega)]

/-! ### digits to the base 16 -/
def hv (c : Int) : Int := if 48 ≤ c ∧ c ≤ 57 then c - 48 else if 97 ≤ c ∧ c ≤ 102 then c - 87 else if 65 ≤ c ∧ c ≤ 70 then c - 55 else -1
def dg (i : Int) : Int := if i < 10 then 48 + i else 87 + i
theorem all256 {p : Int → Prop} (h : ∀ i : Fin 256, p (i.val : Int)) {c : Int} (hc : 0 ≤ c ∧ c < 256) : p c := by
  obtain ⟨n, rfl⟩ := Int.eq_ofNat_of_zero_le hc.1
  exact h ⟨n, by omega⟩
theorem all16 {p : Int → Prop} (h : ∀ i : Fin 16, p (i.val : Int)) {c : Int} (hc : 0 ≤ c ∧ c < 16) : p c := by
  obtain ⟨n, rfl⟩ := Int.eq_ofNat_of_zero_le hc.1
  exact h ⟨n, by omega⟩
theorem hexa_index {c : Int} (hc : 0 ≤ c ∧ c < 256) : strings_IndexByte.f (⟨#[48, 49, 50, 51, 52, 53, 54, 55, 56, 57, 97, 98, 99, 100, 101, 102]⟩ : ByteArray) (smallI c) = some (hv c) :=
  all256 (p := fun c => strings_IndexByte.f (⟨#[48, 49, 50, 51, 52, 53, 54, 55, 56, 57, 97, 98, 99, 100, 101, 102]⟩ : ByteArray) (smallI c) = some (hv c)) (by decide +kernel) hc
theorem hv_bd (c : Int) : -1 ≤ hv c ∧ hv c < 16 := by
  unfold hv
  split
  · omega
  · split
    · omega
    · split <;> omega
theorem hv_dg {i : Int} (hi : 0 ≤ i ∧ i < 16) : hv (dg i) = i := all16 (p := fun i => hv (dg i) = i) (by decide +kernel) hi
theorem lower_sm {c : Int} (hc : 0 ≤ c ∧ c < 256) : text_Lower.sm c = smallI c := by
  unfold text_Lower.sm
  rw [text_small_eq hc]
  rfl
theorem text_Lower_eq {l : List Int} (hl : Bs l) (hn : l.length ≤ 140737488351232) : text_Lower.f (strOfNums l) = some (strOfNums (l.map smallI)) := by
  unfold text_Lower.f
  rw [nums_size, if_pos hn, nums_of hl]
  congr 2
  exact List.map_congr_left fun c hc => lower_sm (hl c hc)
theorem dg_bd {i : Int} (hi : 0 ≤ i ∧ i < 16) : 0 ≤ dg i ∧ dg i < 256 := by unfold dg; split <;> omega

/-! ### fields, got -/
def okV (c : Int) : Bool := decide (¬ ((c < 32 ∧ c ≠ 9) ∨ c = 127))
def rightN (n v : List Int) : Bool := tokenB n && (v.all okV && decide (trL (trR v) = v))
theorem field_value_l {l : List Int} (hl : Bs l) (hn : l.length < 90000) : ∀ (t p : List Int) (k : Nat), l = p ++ t → t.length < k → field_value.l0 k (strOfNums l) (l.length : Int) (p.length : Int) = some (t.all okV) := by
  intro t
  induction t with
  | nil =>
    intro p k e hk
    obtain ⟨k, rfl⟩ : ∃ m, k = m + 1 := ⟨k - 1, by simp at hk; omega⟩
    simp only [field_value.l0]
    rw [if_neg (by rw [e]; simp)]
    rfl
  | cons x t ih =>
    intro p k e hk
    obtain ⟨k, rfl⟩ : ∃ m, k = m + 1 := ⟨k - 1, by simp at hk; omega⟩
    have hlen : l.length = p.length + (t.length + 1) := by rw [e]; simp
    have hc : rd l (p.length : Int) = x := by rw [e]; exact rd_app p t x
    have hi := ih (p ++ [x]) k (by simpa using e) (by simp at hk; omega)
    rw [show (((p ++ [x]).length : Nat) : Int) = (p.length : Int) + 1 by simp] at hi
    simp only [field_value.l0]
    rw [nums_size, if_pos (by omega), if_pos (by omega), if_pos (by omega), nums_bt hl, hc, w64 (by omega) (by omega), hi, List.all_cons, okV]
    by_cases h1 : x < 32
    · rw [if_pos h1]
      by_cases h2 : x = 9
      · rw [if_pos h2, if_neg (by omega), decide_eq_true (by omega), Bool.true_and]
      · rw [if_neg h2, decide_eq_false (by omega), Bool.false_and]
    · rw [if_neg h1]
      by_cases h2 : x = 127
      · rw [if_pos h2, decide_eq_false (by omega), Bool.false_and]
      · rw [if_neg h2, decide_eq_true (by omega), Bool.true_and]
theorem right_if {n v : List Int} (hv : Bs v) : (if tokenB n = true then (if v.all okV = true then some ((strOfNums (trL (trR v))).toList == (strOfNums v).toList) else some false) else some false) = some (rightN n v) := by
  unfold rightN
  rw [nums_beq (trL_Bs (trR_Bs hv)) hv]
  cases tokenB n
  · rfl
  · cases v.all okV
    · rfl
    · rfl
theorem field_Right_eq {k : Nat} {n v : List Int} (hn : Bs n) (hv : Bs v) (ln : n.length < 90000) (lv : v.length < 90000) (hk : 100000 < k) : field_Right.f k (strOfNums n) (strOfNums v) = some (rightN n v) := by
  unfold field_Right.f field_value.f
  rw [text_Token_eq hn ln hk, Option.bind_some, nums_size]
  have := field_value_l hv lv v [] k rfl (by omega)
  rw [show ((([] : List Int).length : Nat) : Int) = 0 from rfl] at this
  rw [this, Option.bind_some, text_Trim_eq (by omega), Option.bind_some]
  exact right_if hv
def fgetL (short : Int) : Nat → List Int → List S52 → Nat → List S52 × Int × Int
  | 0, _, _, _ => ([], 0, short)
  | n + 1, l, acc, p => match cutW l with
    | none => ([], 0, short)
    | some (a, b) => if a = [] then (acc, ((p + 2 : Nat) : Int), 0) else match cutL 58 a with
      | none => ([], 0, 12)
      | some (x, y) => if rightN x (trL (trR y)) = true then fgetL short n b (acc ++ [⟨strOfNums x, strOfNums (trL (trR y))⟩]) (p + a.length + 2) else ([], 0, 12)
theorem field_line_eq {l : List Int} (hl : Bs l) (hn : l.length ≤ 60000) {r : Nat} (hr : r ≤ 2000) : field_line.f (strOfNums l) (r : Int) = some (match cutW (l.take r) with | none => (strOfNums [], if l.length ≥ r then 4 else 11) | some (a, _) => (strOfNums a, 0)) := by
  unfold field_line.f
  have hm : mn ((strOfNums l).size : Int) (r : Int) = ((min l.length r : Nat) : Int) := by
    rw [nums_size]
    unfold mn
    split <;> omega
  have ht : (l.take (min l.length r)).drop 0 = l.take r := by
    rw [List.drop_zero]
    by_cases h : l.length ≤ r
    · rw [Nat.min_eq_left h, List.take_length, List.take_of_length_le h]
    · rw [Nat.min_eq_right (by omega)]
  rw [hm, nums_size, if_pos (by omega), if_pos (by omega), nums_ext, Int.toNat_natCast, ht, strings_IndexW (hl.take _) (by simp; omega), Option.bind_some]
  cases hq : cutW (l.take r) with
  | none =>
    simp only
    rw [if_neg (by decide)]
    by_cases h : l.length ≥ r
    · rw [if_pos (by omega), if_pos h]; rfl
    · rw [if_neg (by omega), if_neg h]; rfl
  | some q =>
    obtain ⟨a, b⟩ := q
    have e := cutW_some hq
    have el := congrArg List.length e
    rw [List.length_append, List.length_cons, List.length_cons, List.length_take] at el
    have ha : (l.take a.length).drop 0 = a := by
      rw [List.drop_zero]
      have : (l.take r).take a.length = a := by rw [e, List.take_left' rfl]
      rwa [List.take_take, Nat.min_eq_left (by omega)] at this
    simp only
    rw [if_pos (by omega), if_pos (by omega), if_pos (by omega), nums_ext, Int.toNat_natCast, ha]
theorem field_parse_eq {k : Nat} (hk : 100000 < k) {l : List Int} (hl : Bs l) (hn : l.length ≤ 60000) :
    field_parse.f k (strOfNums l) = some (match cutL 58 l with | none => (strOfNums l, strOfNums [], false) | some (x, y) => (strOfNums x, strOfNums (trL (trR y)), rightN x (trL (trR y)))) := by
  unfold field_parse.f
  rw [text_Cut_eq (by decide) hl (by omega), Option.bind_some]
  cases hq : cutL 58 l with
  | none =>
    simp only
    rw [text_Trim_eq (by simp), Option.bind_some, if_neg (by decide)]
    rfl
  | some q =>
    obtain ⟨x, y⟩ := q
    have e := (cutL_some hq).1
    have el := congrArg List.length e
    rw [List.length_append, List.length_cons] at el
    have hy : Bs y := (Bs.right (a := x) (e ▸ hl)).tail
    have l1 := trL_len (trR y)
    have l2 := trR_len y
    simp only
    rw [text_Trim_eq (by omega), Option.bind_some, if_pos trivial, field_Right_eq (Bs.left (b := 58 :: y) (e ▸ hl)) (trL_Bs (trR_Bs hy)) (by omega) (by omega) hk, Option.bind_some]
theorem field_Get_l {s : List Int} (hs : Bs s) (hn : s.length ≤ 60000) : ∀ (n : Nat) (l p : List Int) (acc : List S52) (k : Nat), s.take 2000 = p ++ l → l.length < n → acc.length ≤ p.length → n + 100010 < k →
    field_Get.l0 k (strOfNums s) acc (p.length : Int) = some (fgetL (if s.length ≥ 2000 then 4 else 11) n l acc p.length) := by
  intro n
  induction n with
  | zero => intro l p acc k _ h; omega
  | succ n ih =>
    intro l p acc k e hln ha hk
    obtain ⟨k, rfl⟩ : ∃ m, k = m + 1 := ⟨k - 1, by omega⟩
    have elen := congrArg List.length e
    rw [List.length_take, List.length_append] at elen
    have hd : (s.take s.length).drop p.length = s.drop p.length := by rw [List.take_length]
    have ht : (s.drop p.length).take (2000 - p.length) = l := by
      have := congrArg (List.drop p.length) e
      rw [List.drop_left' rfl, List.drop_take] at this
      exact this
    simp only [field_Get.l0]
    rw [nums_size, if_pos (by omega), if_pos (by omega), nums_ext, Int.toNat_natCast, hd, w64 (by omega) (by omega), show (2000 - (p.length : Int)) = ((2000 - p.length : Nat) : Int) by omega, field_line_eq (hs.drop _) (by rw [List.length_drop]; omega) (by omega), Option.bind_some, ht, fgetL]
    cases hq : cutW l with
    | none =>
      simp only
      by_cases h : s.length ≥ 2000
      · rw [if_pos (c := (s.drop p.length).length ≥ 2000 - p.length) (by rw [List.length_drop]; omega), if_pos h, if_neg (by decide)]
      · rw [if_neg (c := (s.drop p.length).length ≥ 2000 - p.length) (by rw [List.length_drop]; omega), if_neg h, if_neg (by decide)]
    | some q =>
      obtain ⟨a, b⟩ := q
      have ea := cutW_some hq
      have hl : Bs l := (Bs.right (a := p) (e ▸ hs.take 2000))
      have hba : Bs a := Bs.left (b := 13 :: 10 :: b) (ea ▸ hl)
      have el := congrArg List.length ea
      rw [List.length_append, List.length_cons, List.length_cons] at el
      simp only
      rw [if_pos trivial, nums_ifl hba, nums_size, w64 (x := (a.length : Int) + 2) (by omega) (by omega), w64 (by omega) (by omega)]
      by_cases h0 : a = []
      · rw [if_pos (by rw [h0]; rfl), if_pos h0, h0]
        rfl
      · rw [if_neg (by simpa using h0), if_neg h0, field_parse_eq (by omega) hba (by omega), Option.bind_some]
        cases hc : cutL 58 a with
        | none =>
          simp only
          rw [if_neg (by decide)]
        | some q =>
          obtain ⟨x, y⟩ := q
          simp only
          by_cases hr : rightN x (trL (trR y)) = true
          · rw [if_pos hr, if_pos hr, if_pos (by omega)]
            have := ih b (p ++ a ++ [13, 10]) (acc ++ [⟨strOfNums x, strOfNums (trL (trR y))⟩]) k (by rw [e, ea]; simp) (by omega) (by simp; omega) (by omega)
            rw [show (p ++ a ++ ([13, 10] : List Int)).length = p.length + a.length + 2 by simp only [List.length_append, List.length_cons, List.length_nil]] at this
            rw [← this]
            congr 1
          · rw [if_neg hr, if_neg hr]
theorem field_Get_eq {k : Nat} {s : List Int} (hs : Bs s) (hn : s.length ≤ 60000) (hk : 200000 < k) : field_Get.f k (strOfNums s) = some (fgetL (if s.length ≥ 2000 then 4 else 11) 2001 (s.take 2000) [] 0) :=
  field_Get_l hs hn 2001 (s.take 2000) [] [] k rfl (by rw [List.length_take]; omega) (Nat.le_refl _) (by omega)
theorem fgetL_len (short : Int) : ∀ (n : Nat) (l : List Int) (acc : List S52) (p : Nat), (fgetL short n l acc p).1.length ≤ acc.length + l.length ∧ 0 ≤ (fgetL short n l acc p).2.1 ∧ (fgetL short n l acc p).2.1 ≤ ((p + l.length : Nat) : Int) := by
  intro n
  induction n with
  | zero => intro l acc p; simp only [fgetL]; exact ⟨by simp, by omega, by omega⟩
  | succ n ih =>
    intro l acc p
    rw [fgetL]
    cases hq : cutW l with
    | none => exact ⟨by simp, by simp, by simp only; omega⟩
    | some q =>
      obtain ⟨a, b⟩ := q
      have el := congrArg List.length (cutW_some hq)
      rw [List.length_append, List.length_cons, List.length_cons] at el
      simp only
      by_cases h0 : a = []
      · rw [if_pos h0]
        exact ⟨by simp only; omega, by simp only; omega, by simp only; omega⟩
      · rw [if_neg h0]
        cases hc : cutL 58 a with
        | none => exact ⟨by simp, by simp, by simp only; omega⟩
        | some q =>
          obtain ⟨x, y⟩ := q
          simp only
          by_cases hr : rightN x (trL (trR y)) = true
          · rw [if_pos hr]
            obtain ⟨h1, h2, h3⟩ := ih b (acc ++ [⟨strOfNums x, strOfNums (trL (trR y))⟩]) (p + a.length + 2)
            rw [List.length_append, List.length_singleton] at h1
            exact ⟨by omega, h2, by omega⟩
          · rw [if_neg hr]
            exact ⟨by simp, by simp, by simp only; omega⟩

theorem cutW_app2 : ∀ {a : List Int} (b : List Int), (∀ x ∈ a, x ≠ 13) → cutW (a ++ 13 :: 10 :: b) = some (a, b)
  | [], b, _ => by simp [cutW]
  | [x], b, h => by
    show cutW (x :: 13 :: 10 :: b) = _
    rw [cutW, if_neg (fun c => h x (by simp) c.1), show cutW (13 :: 10 :: b) = some ([], b) by simp [cutW]]
    rfl
  | x :: y :: a, b, h => by
    show cutW (x :: y :: (a ++ 13 :: 10 :: b)) = _
    rw [cutW, if_neg (fun c => h x (by simp) c.1), show y :: (a ++ 13 :: 10 :: b) = (y :: a) ++ 13 :: 10 :: b from rfl, cutW_app2 b (fun z hz => h z (by simp only [List.mem_cons] at hz ⊢; exact Or.inr hz))]
    rfl
theorem fgetL_stay {s2 : Int} : ∀ (n m : Nat) (l r : List Int) (acc : List S52) (p : Nat), l.length < n → (l ++ r).length < m → (fgetL 11 n l acc p).2.2 = 11 ∨ fgetL s2 m (l ++ r) acc p = fgetL 11 n l acc p := by
  intro n
  induction n with
  | zero => intro m l r acc p h; omega
  | succ n ih =>
    intro m l r acc p h hm
    obtain ⟨m, rfl⟩ : ∃ q, m = q + 1 := ⟨m - 1, by omega⟩
    rw [fgetL, fgetL]
    cases hq : cutW l with
    | none => exact Or.inl rfl
    | some q =>
      obtain ⟨a, b⟩ := q
      have el := congrArg List.length (cutW_some hq)
      rw [List.length_append, List.length_cons, List.length_cons] at el
      rw [List.length_append] at hm
      rw [cutW_app hq]
      simp only
      by_cases h0 : a = []
      · rw [if_pos h0, if_pos h0]; exact Or.inr rfl
      · rw [if_neg h0, if_neg h0]
        cases hc : cutL 58 a with
        | none => exact Or.inr rfl
        | some q =>
          obtain ⟨x, y⟩ := q
          simp only
          by_cases hr : rightN x (trL (trR y)) = true
          · rw [if_pos hr, if_pos hr]
            exact ih m b r _ _ (by omega) (by rw [List.length_append]; omega)
          · rw [if_neg hr, if_neg hr]; exact Or.inr rfl

/-! ### chunks, as lists of whole numbers -/
def hexFold : Int → List Int → Int
  | n, [] => n
  | n, c :: t => if hv c < 0 then -1 else hexFold (16 * n + hv c) t
def ctlB (c : Int) : Bool := decide ((c < 32 ∧ c ≠ 9) ∨ c = 127)
def csize (l : List Int) : Int := match cutL 59 l with
  | none => if l = [] ∨ 6 < l.length then -1 else hexFold 0 l
  | some (a, b) => if a = [] ∨ 6 < a.length ∨ b.any ctlB = true then -1 else hexFold 0 a
def fget (z : List Int) : List S52 × Int × Int := fgetL (if z.length ≥ 2000 then 4 else 11) 2001 (z.take 2000) [] 0
def cfin (out : List Int) (p : Nat) (u : List S52 × Int × Int) : List Int × Int × Int :=
  if u.2.2 = 0 then (out, (p : Int) + u.2.1, 0) else if u.2.2 = 11 then (out, 0, 11) else ([], 0, u.2.2)
def cgetL : Nat → List Int → List Int → Nat → List Int × Int × Int
  | 0, _, _, _ => ([], 0, 12)
  | q + 1, y, out, p => match cutW (y.take 200) with
    | none => if 200 ≤ y.length then ([], 0, 4) else (out, 0, 11)
    | some (a, _) => if csize a < 0 then ([], 0, 12) else if csize a = 0 then cfin out (p + a.length + 2) (fget (y.drop (a.length + 2)))
      else if 16384 < (out.length : Int) + csize a then ([], 0, 4)
      else if ((y.drop (a.length + 2)).length : Int) < csize a + 2 then (out ++ (y.drop (a.length + 2)).take (csize a).toNat, 0, 11)
      else if ((y.drop (a.length + 2)).drop (csize a).toNat).take 2 = [13, 10] then cgetL q ((y.drop (a.length + 2)).drop ((csize a).toNat + 2)) (out ++ (y.drop (a.length + 2)).take (csize a).toNat) (p + a.length + 2 + (csize a).toNat + 2)
      else ([], 0, 12)
theorem hexFold_le : ∀ (l : List Int) (n : Int), 0 ≤ n → -1 ≤ hexFold n l ∧ hexFold n l < (n + 1) * 16 ^ l.length
  | [], n, h => by simp only [hexFold, List.length_nil, Int.pow_zero]; omega
  | c :: t, n, h => by
    rw [hexFold]
    have hb := hv_bd c
    split
    · have : (0 : Int) < (n + 1) * 16 ^ (c :: t).length := Int.mul_pos (by omega) (Int.pow_pos (by decide))
      omega
    · obtain ⟨h1, h2⟩ := hexFold_le t (16 * n + hv c) (by omega)
      refine ⟨h1, Int.lt_of_lt_of_le h2 ?_⟩
      rw [List.length_cons, Int.pow_succ, ← Int.mul_assoc, Int.mul_right_comm]
      exact Int.mul_le_mul_of_nonneg_right (by omega) (Int.le_of_lt (Int.pow_pos (by decide)))
theorem hexFold6 {l : List Int} (h : l.length ≤ 6) : -1 ≤ hexFold 0 l ∧ hexFold 0 l < 16777216 := by
  obtain ⟨h1, h2⟩ := hexFold_le l 0 (Int.le_refl _)
  refine ⟨h1, Int.lt_of_lt_of_le h2 ?_⟩
  have : ∀ m : Fin 7, (0 + 1 : Int) * 16 ^ m.val ≤ 16777216 := by decide
  exact this ⟨l.length, by omega⟩
theorem csize_bd (l : List Int) : -1 ≤ csize l ∧ csize l < 16777216 := by
  unfold csize
  split
  · split
    · omega
    · exact hexFold6 (by omega)
  · split
    · omega
    · exact hexFold6 (by omega)
theorem cgetL_none {q : Nat} {y out : List Int} {p : Nat} (h : cutW (y.take 200) = none) : cgetL (q + 1) y out p = if 200 ≤ y.length then ([], 0, 4) else (out, 0, 11) := by rw [cgetL, h]
theorem cgetL_some {q : Nat} {y out a b : List Int} {p : Nat} (h : cutW (y.take 200) = some (a, b)) : cgetL (q + 1) y out p = if csize a < 0 then ([], 0, 12) else if csize a = 0 then cfin out (p + a.length + 2) (fget (y.drop (a.length + 2)))
      else if 16384 < (out.length : Int) + csize a then ([], 0, 4)
      else if ((y.drop (a.length + 2)).length : Int) < csize a + 2 then (out ++ (y.drop (a.length + 2)).take (csize a).toNat, 0, 11)
      else if ((y.drop (a.length + 2)).drop (csize a).toNat).take 2 = [13, 10] then cgetL q ((y.drop (a.length + 2)).drop ((csize a).toNat + 2)) (out ++ (y.drop (a.length + 2)).take (csize a).toNat) (p + a.length + 2 + (csize a).toNat + 2)
      else ([], 0, 12) := by rw [cgetL, h]
theorem cutW_len {l a b : List Int} (h : cutW (l.take 200) = some (a, b)) : a.length + 2 ≤ l.length ∧ a.length + 2 ≤ 200 ∧ l = a ++ 13 :: 10 :: l.drop (a.length + 2) := by
  have e := cutW_some h
  have el := congrArg List.length e
  rw [List.length_take, List.length_append, List.length_cons, List.length_cons] at el
  refine ⟨by omega, by omega, ?_⟩
  have h1 : l.take (a.length + 2) = a ++ [13, 10] := by
    have := congrArg (List.take (a.length + 2)) e
    rw [List.take_take, Nat.min_eq_left (by omega)] at this
    rw [this, show a ++ 13 :: 10 :: b = (a ++ [13, 10]) ++ b by simp, List.take_left' (by simp)]
  have h2 := List.take_append_drop (a.length + 2) l
  rw [h1] at h2
  rw [← h2]
  simp
theorem fget_stay (z m : List Int) : (fget z).2.2 = 11 ∨ fget (z ++ m) = fget z := by
  unfold fget
  by_cases h : z.length ≥ 2000
  · rw [if_pos h, if_pos (by rw [List.length_append]; omega), List.take_append_of_le_length h]
    exact .inr rfl
  · rw [if_neg h, List.take_of_length_le (by omega), List.take_append, List.take_of_length_le (show z.length ≤ 2000 by omega)]
    exact fgetL_stay 2001 2001 z _ [] 0 (by omega) (by rw [List.length_append, List.length_take]; omega)
theorem cfin_stay (out : List Int) (p : Nat) (z m : List Int) : (cfin out p (fget z)).2.2 = 11 ∨ cfin out p (fget (z ++ m)) = cfin out p (fget z) := by
  rcases fget_stay z m with h | h
  · left
    unfold cfin
    rw [h, if_neg (by decide), if_pos rfl]
  · rw [h]
    exact .inr rfl
/-- What is told stays, when more comes. -/
theorem cgetL_stay (m : List Int) : ∀ (q q' : Nat) (y out : List Int) (p : Nat), y.length < q → (y ++ m).length < q' → (cgetL q y out p).2.2 = 11 ∨ cgetL q' (y ++ m) out p = cgetL q y out p := by
  intro q
  induction q with
  | zero => intro q' y out p h; omega
  | succ q ih =>
    intro q' y out p hy hm
    obtain ⟨q', rfl⟩ : ∃ n, q' = n + 1 := ⟨q' - 1, by omega⟩
    cases hq : cutW (y.take 200) with
    | none =>
      rw [cgetL_none hq]
      by_cases h : 200 ≤ y.length
      · rw [if_pos h, cgetL_none (by rw [List.take_append_of_le_length h]; exact hq), if_pos (by rw [List.length_append]; omega)]
        exact .inr rfl
      · rw [if_neg h]
        exact .inl rfl
    | some ab =>
      obtain ⟨a, b⟩ := ab
      obtain ⟨l1, l2, _⟩ := cutW_len hq
      have hq2 : cutW ((y ++ m).take 200) = some (a, b ++ m.take (200 - y.length)) := by
        rw [List.take_append]
        exact cutW_app hq
      rw [cgetL_some hq, cgetL_some hq2, List.drop_append_of_le_length l1]
      have hz : (y.drop (a.length + 2)).length + a.length + 2 = y.length := by rw [List.length_drop]; omega
      generalize y.drop (a.length + 2) = z at hz ⊢
      have hb := csize_bd a
      rw [List.length_append] at hm
      by_cases h1 : csize a < 0
      · rw [if_pos h1, if_pos h1]
        exact .inr rfl
      rw [if_neg h1, if_neg h1]
      by_cases h2 : csize a = 0
      · rw [if_pos h2, if_pos h2]
        exact cfin_stay _ _ _ _
      rw [if_neg h2, if_neg h2]
      by_cases h3 : 16384 < (out.length : Int) + csize a
      · rw [if_pos h3, if_pos h3]
        exact .inr rfl
      rw [if_neg h3, if_neg h3]
      by_cases h4 : (z.length : Int) < csize a + 2
      · rw [if_pos h4]
        exact .inl rfl
      have e1 : (z ++ m).drop (csize a).toNat = z.drop (csize a).toNat ++ m := List.drop_append_of_le_length (by omega)
      have e2 : (z.drop (csize a).toNat ++ m).take 2 = (z.drop (csize a).toNat).take 2 := List.take_append_of_le_length (by rw [List.length_drop]; omega)
      have e3 : (z ++ m).take (csize a).toNat = z.take (csize a).toNat := List.take_append_of_le_length (by omega)
      have e4 : (z ++ m).drop ((csize a).toNat + 2) = z.drop ((csize a).toNat + 2) ++ m := List.drop_append_of_le_length (by omega)
      rw [if_neg h4, if_neg (c := ((z ++ m).length : Int) < csize a + 2) (by rw [List.length_append]; omega), e1, e2, e3, e4]
      by_cases h5 : (z.drop (csize a).toNat).take 2 = [13, 10]
      · rw [if_pos h5, if_pos h5]
        exact ih _ _ _ _ (by rw [List.length_drop]; omega) (by rw [List.length_append, List.length_drop]; omega)
      · rw [if_neg h5, if_neg h5]
        exact .inr rfl
/-! ### what is put -/
def chex (n : Int) : List Int := if n < 16 then [dg n] else if n < 256 then [dg (n / 16), dg (n % 16)] else if n < 4096 then [dg (n / 256), dg (n / 16 % 16), dg (n % 16)] else [dg (n / 4096), dg (n / 256 % 16), dg (n / 16 % 16), dg (n % 16)]
theorem chex_all : ∀ (a : Fin 17) (b : Fin 256), (csize (chex ((256 * a.val + b.val : Nat) : Int)) = ((256 * a.val + b.val : Nat) : Int) ∧ (chex ((256 * a.val + b.val : Nat) : Int)).length ≤ 4) ∧ (chex ((256 * a.val + b.val : Nat) : Int)).all (fun c => decide (0 ≤ c ∧ c < 256 ∧ c ≠ 13)) = true := by decide +kernel
theorem chex_eq {n : Nat} (h : n ≤ 4096) : csize (chex (n : Int)) = n ∧ (chex (n : Int)).length ≤ 4 ∧ ∀ c ∈ chex (n : Int), 0 ≤ c ∧ c < 256 ∧ c ≠ 13 := by
  have := chex_all ⟨n / 256, by omega⟩ ⟨n % 256, by omega⟩
  simp only [show 256 * (n / 256) + n % 256 = n by omega] at this
  obtain ⟨⟨h1, h2⟩, h3⟩ := this
  refine ⟨h1, h2, fun c hc => ?_⟩
  have := List.all_eq_true.mp h3 c hc
  simpa using this
def cputL (size : Nat) : Nat → List Int → List Int
  | 0, _ => [48, 13, 10, 13, 10]
  | q + 1, b => if b = [] then [48, 13, 10, 13, 10] else chex ((min size b.length : Nat) : Int) ++ 13 :: 10 :: (b.take (min size b.length) ++ 13 :: 10 :: cputL size q (b.drop (min size b.length)))
theorem fget_end (m : List Int) : fget (13 :: 10 :: m) = ([], 2, 0) := by
  unfold fget
  rw [show (13 :: 10 :: m).take 2000 = 13 :: 10 :: m.take 1998 from rfl, fgetL]
  simp [cutW]
theorem cutW_200 {a : List Int} (r : List Int) (ha : ∀ c ∈ a, c ≠ 13) (hl : a.length ≤ 100) : cutW ((a ++ 13 :: 10 :: r).take 200) = some (a, r.take (198 - a.length)) := by
  rw [List.take_append, List.take_of_length_le (by omega), show 200 - a.length = (198 - a.length) + 1 + 1 by omega, List.take_succ_cons, List.take_succ_cons]
  exact cutW_app2 _ ha
theorem csize0 : csize [48] = 0 := by decide
/-- One chunk is got. -/
theorem cgetL_chunk {q n : Nat} {x r out : List Int} {p : Nat} (h0 : 0 < n) (hn : n ≤ 4096) (hx : x.length = n) (ho : out.length + n ≤ 16384) :
    cgetL (q + 1) (chex (n : Int) ++ 13 :: 10 :: (x ++ 13 :: 10 :: r)) out p = cgetL q r (out ++ x) (p + (chex (n : Int)).length + 2 + n + 2) := by
  obtain ⟨c1, c2, c3⟩ := chex_eq hn
  have hd : (chex (n : Int) ++ 13 :: 10 :: (x ++ 13 :: 10 :: r)).drop ((chex (n : Int)).length + 2) = x ++ 13 :: 10 :: r := by
    rw [← List.drop_drop, List.drop_left' rfl]
    rfl
  rw [cgetL_some (cutW_200 _ (fun c hc => (c3 c hc).2.2) (by omega)), c1, if_neg (by omega), if_neg (by omega), if_neg (by omega), hd, if_neg (by simp; omega), Int.toNat_natCast, List.drop_left' hx, if_pos (by rfl), List.take_left' hx, ← List.drop_drop, List.drop_left' hx]
  rfl
theorem cputL_nil (size q : Nat) : cputL size q [] = [48, 13, 10, 13, 10] := by cases q <;> simp [cputL]
theorem cputL_cons {size q : Nat} {b : List Int} (hb : b ≠ []) : cputL size (q + 1) b = chex ((min size b.length : Nat) : Int) ++ 13 :: 10 :: (b.take (min size b.length) ++ 13 :: 10 :: cputL size q (b.drop (min size b.length))) := by rw [cputL, if_neg hb]
theorem cgetL_end {q : Nat} (m out : List Int) (p : Nat) : cgetL (q + 1) ([48, 13, 10, 13, 10] ++ m) out p = (out, ((p + 5 : Nat) : Int), 0) := by
  rw [show ([48, 13, 10, 13, 10] : List Int) ++ m = [48] ++ 13 :: 10 :: (13 :: 10 :: m) from rfl, cgetL_some (cutW_200 _ (by decide) (by decide)), csize0, if_neg (by decide), if_pos rfl]
  show cfin out (p + 1 + 2) (fget (13 :: 10 :: m)) = _
  rw [fget_end, cfin, if_pos rfl]
  simp only [Prod.mk.injEq, true_and, and_true]
  omega
theorem cputL_ne (size q : Nat) (b : List Int) : 5 ≤ (cputL size q b).length := by
  induction q generalizing b with
  | zero => simp [cputL]
  | succ q ih =>
    rw [cputL]
    split
    · decide
    · have := ih (b.drop (min size b.length))
      simp only [List.length_append, List.length_cons]
      omega
/-- What is put is got, whatever stands behind it. -/
theorem cget_cput (m : List Int) {size : Nat} (h0 : 0 < size) (hs : size ≤ 4096) : ∀ (q : Nat) (b out : List Int) (p q' : Nat), b.length ≤ q → (cputL size q b).length < q' → out.length + b.length ≤ 16384 →
    cgetL q' (cputL size q b ++ m) out p = (out ++ b, ((p + (cputL size q b).length : Nat) : Int), 0) := by
  intro q
  induction q with
  | zero =>
    intro b out p q' hb hq ho
    obtain rfl : b = [] := List.length_eq_zero_iff.mp (by omega)
    obtain ⟨q', rfl⟩ : ∃ n, q' = n + 1 := ⟨q' - 1, by omega⟩
    rw [cputL_nil, cgetL_end, List.append_nil]
    rfl
  | succ q ih =>
    intro b out p q' hb hq ho
    obtain ⟨q', rfl⟩ : ∃ n, q' = n + 1 := ⟨q' - 1, by omega⟩
    by_cases hn : b = []
    · subst hn
      rw [cputL_nil, cgetL_end, List.append_nil]
      rfl
    · have hl : 0 < b.length := List.length_pos_iff.mpr hn
      rw [cputL_cons hn] at hq ⊢
      generalize hN : min size b.length = n at hq ⊢
      have hx : (b.take n).length = n := by rw [List.length_take]; omega
      have e : ∀ (t : List Int), (chex (n : Int) ++ 13 :: 10 :: (b.take n ++ 13 :: 10 :: t)) ++ m = chex (n : Int) ++ 13 :: 10 :: (b.take n ++ 13 :: 10 :: (t ++ m)) := fun t => by simp
      simp only [List.length_append, List.length_cons, hx] at hq ⊢
      rw [e, cgetL_chunk (by omega) (by omega) hx (by omega), ih _ _ _ _ (by rw [List.length_drop]; omega) (by omega) (by rw [List.length_append, List.length_drop, hx]; omega), List.append_assoc, List.take_append_drop]
      simp only [Prod.mk.injEq, true_and, and_true]
      omega
/-- What is too long is told. -/
theorem cget_long (m : List Int) {size : Nat} (h0 : 0 < size) (hs : size ≤ 4096) : ∀ (q : Nat) (b out : List Int) (p q' : Nat), b.length ≤ q → (cputL size q b).length < q' → out.length ≤ 16384 → 16384 < out.length + b.length →
    cgetL q' (cputL size q b ++ m) out p = ([], 0, 4) := by
  intro q
  induction q with
  | zero => intro b out p q' hb hq ho hl; omega
  | succ q ih =>
    intro b out p q' hb hq ho hlong
    obtain ⟨q', rfl⟩ : ∃ n, q' = n + 1 := ⟨q' - 1, by omega⟩
    have hn : b ≠ [] := by rintro rfl; simp at hlong; omega
    have hl : 0 < b.length := List.length_pos_iff.mpr hn
    rw [cputL_cons hn] at hq ⊢
    generalize hN : min size b.length = n at hq ⊢
    have hx : (b.take n).length = n := by rw [List.length_take]; omega
    have e : ∀ (t : List Int), (chex (n : Int) ++ 13 :: 10 :: (b.take n ++ 13 :: 10 :: t)) ++ m = chex (n : Int) ++ 13 :: 10 :: (b.take n ++ 13 :: 10 :: (t ++ m)) := fun t => by simp
    simp only [List.length_append, List.length_cons, hx] at hq
    rw [e]
    by_cases hlim : out.length + n ≤ 16384
    · rw [cgetL_chunk (by omega) (by omega) hx hlim]
      exact ih _ _ _ _ (by rw [List.length_drop]; omega) (by omega) (by rw [List.length_append, hx]; omega) (by rw [List.length_append, List.length_drop, hx]; omega)
    · obtain ⟨c1, c2, c3⟩ := chex_eq (n := n) (by omega)
      rw [cgetL_some (cutW_200 _ (fun c hc => (c3 c hc).2.2) (by omega)), c1, if_neg (by omega), if_neg (by omega), if_pos (by omega)]
/-- Cut off anywhere, a beginning is told. -/
theorem cget_cut {size : Nat} (h0 : 0 < size) (hs : size ≤ 4096) : ∀ (q : Nat) (b out : List Int) (p q' cut : Nat), b.length ≤ q → cut < (cputL size q b).length → cut < q' → out.length + b.length ≤ 16384 →
    ∃ j, j ≤ b.length ∧ cgetL q' ((cputL size q b).take cut) out p = (out ++ b.take j, 0, 11) := by
  have hend : ∀ (q' cut p : Nat) (out : List Int), cut < 5 → cgetL (q' + 1) (([48, 13, 10, 13, 10] : List Int).take cut) out p = (out, 0, 11) := by
    intro q' cut p out hc
    have h3 : cut = 0 ∨ cut = 1 ∨ cut = 2 ∨ cut = 3 ∨ cut = 4 := by omega
    have f0 : fget [] = ([], 0, 11) := by unfold fget; simp [fgetL, cutW]
    have f1 : fget [13] = ([], 0, 11) := by unfold fget; simp [fgetL, cutW]
    rcases h3 with rfl | rfl | rfl | rfl | rfl
    · rw [cgetL_none (by rfl)]; rfl
    · rw [cgetL_none (by rfl)]; rfl
    · rw [cgetL_none (by simp [cutW])]; rfl
    · rw [cgetL_some (a := [48]) (b := []) (by simp [cutW]), csize0, if_neg (by decide), if_pos rfl]
      show cfin out _ (fget []) = _
      rw [f0]; rfl
    · rw [cgetL_some (a := [48]) (b := [13]) (by simp [cutW]), csize0, if_neg (by decide), if_pos rfl]
      show cfin out _ (fget [13]) = _
      rw [f1]; rfl
  intro q
  induction q with
  | zero =>
    intro b out p q' cut hb hc hq ho
    obtain rfl : b = [] := List.length_eq_zero_iff.mp (by omega)
    obtain ⟨q', rfl⟩ : ∃ n, q' = n + 1 := ⟨q' - 1, by omega⟩
    rw [cputL_nil] at hc ⊢
    exact ⟨0, Nat.le_refl _, by rw [hend _ _ _ _ hc, List.take_nil, List.append_nil]⟩
  | succ q ih =>
    intro b out p q' cut hb hc hq ho
    obtain ⟨q', rfl⟩ : ∃ n, q' = n + 1 := ⟨q' - 1, by omega⟩
    by_cases hn : b = []
    · subst hn
      rw [cputL_nil] at hc ⊢
      exact ⟨0, Nat.le_refl _, by rw [hend _ _ _ _ hc, List.take_nil, List.append_nil]⟩
    · have hl : 0 < b.length := List.length_pos_iff.mpr hn
      rw [cputL_cons hn] at hc ⊢
      generalize hN : min size b.length = n at hc ⊢
      have hx : (b.take n).length = n := by rw [List.length_take]; omega
      obtain ⟨c1, c2, c3⟩ := chex_eq (n := n) (by omega)
      have c4 := fun c hc => (c3 c hc).2.2
      simp only [List.length_append, List.length_cons, hx] at hc
      by_cases k1 : cut < (chex (n : Int)).length + 2
      · -- the line is cut
        have hno : cutW (((chex (n : Int) ++ 13 :: 10 :: (b.take n ++ 13 :: 10 :: cputL size q (b.drop n))).take cut).take 200) = none := by
          have e1 : (chex (n : Int) ++ 13 :: 10 :: (b.take n ++ 13 :: 10 :: cputL size q (b.drop n))).take cut = (chex (n : Int)).take cut ∨ (chex (n : Int) ++ 13 :: 10 :: (b.take n ++ 13 :: 10 :: cputL size q (b.drop n))).take cut = chex (n : Int) ++ [13] := by
            by_cases k2 : cut ≤ (chex (n : Int)).length
            · left; rw [List.take_append_of_le_length k2]
            · right; rw [List.take_append, List.take_of_length_le (by omega), show cut - (chex (n : Int)).length = 1 by omega]; rfl
          have no1 : ∀ (l : List Int), (∀ c ∈ l, c ≠ 13) → cutW l = none ∧ cutW (l ++ [13]) = none := by
            intro l
            induction l with
            | nil => intro _; exact ⟨rfl, rfl⟩
            | cons c l ih2 =>
              intro h
              obtain ⟨i1, i2⟩ := ih2 fun x hx => h x (List.mem_cons_of_mem _ hx)
              have hc13 := h c (List.mem_cons_self ..)
              refine ⟨?_, ?_⟩
              · cases l with
                | nil => rfl
                | cons d l => rw [cutW, if_neg (fun h => hc13 h.1), i1]; rfl
              · cases l with
                | nil => simp [cutW]
                | cons d l => rw [List.cons_append, List.cons_append, cutW, if_neg (fun h => hc13 h.1), ← List.cons_append, i2]; rfl
          rw [List.take_of_length_le (by rw [List.length_take]; omega)]
          rcases e1 with e1 | e1
          · rw [e1]; exact (no1 _ fun c hc => c4 c (List.mem_of_mem_take hc)).1
          · rw [e1]; exact (no1 _ c4).2
        refine ⟨0, by omega, ?_⟩
        rw [cgetL_none hno, if_neg (by rw [List.length_take]; omega), List.take_zero, List.append_nil]
      · obtain ⟨d, rfl⟩ : ∃ d, cut = (chex (n : Int)).length + 2 + d := ⟨cut - ((chex (n : Int)).length + 2), by omega⟩
        have e2 : ∀ X : List Int, (chex (n : Int) ++ 13 :: 10 :: X).take ((chex (n : Int)).length + 2 + d) = chex (n : Int) ++ 13 :: 10 :: X.take d := by
          intro X
          rw [List.take_append, List.take_of_length_le (by omega), show (chex (n : Int)).length + 2 + d - (chex (n : Int)).length = d + 1 + 1 by omega, List.take_succ_cons, List.take_succ_cons]
        rw [e2]
        by_cases k3 : d < n + 2
        · refine ⟨min d n, by omega, ?_⟩
          have hd : ∀ X : List Int, (chex (n : Int) ++ 13 :: 10 :: X).drop ((chex (n : Int)).length + 2) = X := by
            intro X
            rw [← List.drop_drop, List.drop_left' rfl]
            rfl
          rw [cgetL_some (cutW_200 _ c4 (by omega)), c1, if_neg (by omega), if_neg (by omega), if_neg (by omega), hd, if_pos (by rw [List.length_take]; omega), Int.toNat_natCast, List.take_take, List.take_append_of_le_length (by rw [hx]; omega), List.take_take]
          congr 3
          omega
        · obtain ⟨c, rfl⟩ : ∃ c, d = n + 2 + c := ⟨d - (n + 2), by omega⟩
          have e3 : ∀ X : List Int, (b.take n ++ 13 :: 10 :: X).take (n + 2 + c) = b.take n ++ 13 :: 10 :: X.take c := by
            intro X
            rw [List.take_append, List.take_of_length_le (by omega), hx, show n + 2 + c - n = c + 1 + 1 by omega, List.take_succ_cons, List.take_succ_cons]
          rw [e3, cgetL_chunk (by omega) (by omega) hx (by omega)]
          obtain ⟨j, j1, j2⟩ := ih (b.drop n) (out ++ b.take n) (p + (chex (n : Int)).length + 2 + n + 2) q' c (by rw [List.length_drop]; omega) (by omega) (by omega) (by rw [List.length_append, List.length_drop, hx]; omega)
          rw [List.length_drop] at j1
          refine ⟨n + j, by omega, ?_⟩
          rw [j2, List.append_assoc, List.take_add]

/-! ### chunk.size, chunk.Get -/
theorem ctl_eq {c : Int} (h : 0 ≤ c ∧ c < 256) : ContainsF.ctl (c.toNat.toUInt8).toNat = ctlB c :=
  all256 (p := fun c => ContainsF.ctl (c.toNat.toUInt8).toNat = ctlB c) (by decide +kernel) h
theorem contains_eq {l : List Int} (hl : Bs l) : strings_ContainsFunc_chunk_size_1.f (strOfNums l) = some (l.any ctlB) := by
  unfold strings_ContainsFunc_chunk_size_1.f
  rw [nums_data, List.any_map]
  congr 1
  induction l with
  | nil => rfl
  | cons x t ih => rw [List.any_cons, List.any_cons, ih hl.tail]; congr 1; exact ctl_eq hl.head
theorem chunk_size_l {l : List Int} (hl : Bs l) (hn : l.length ≤ 6) : ∀ (t p : List Int) (n : Int) (k : Nat), l = p ++ t → 0 ≤ n → n < 16 ^ p.length → t.length < k →
    chunk_size.l0 k (strOfNums l) n (l.length : Int) (p.length : Int) = some (hexFold n t) := by
  intro t
  induction t with
  | nil =>
    intro p n k e h0 h1 hk
    obtain ⟨k, rfl⟩ : ∃ m, k = m + 1 := ⟨k - 1, by omega⟩
    have hlen : l.length = p.length := by rw [e, List.append_nil]
    simp only [chunk_size.l0]
    rw [if_neg (by omega)]
    rfl
  | cons x t ih =>
    intro p n k e h0 h1 hk
    obtain ⟨k, rfl⟩ : ∃ m, k = m + 1 := ⟨k - 1, by omega⟩
    have hlen : l.length = p.length + (t.length + 1) := by rw [e]; simp
    have hx : 0 ≤ x ∧ x < 256 := hl x (by rw [e]; simp)
    have hb := hv_bd x
    have he : ((l.take (p.length + 1)).drop p.length) = [x] := by rw [e, List.take_append, List.take_of_length_le (by omega), List.drop_left' rfl, show p.length + 1 - p.length = 1 by omega]; rfl
    have hpow : (16 : Int) ^ p.length ≤ 16777216 := by
      have : ∀ m : Fin 7, (16 : Int) ^ m.val ≤ 16777216 := by decide
      exact this ⟨p.length, by omega⟩
    simp only [chunk_size.l0]
    rw [if_pos (by omega), if_pos (by omega), w64 (x := (p.length : Int) + 1) (by omega) (by omega), if_pos (by omega), nums_size, if_pos (by omega), nums_ext, show ((p.length : Int) + 1).toNat = p.length + 1 by omega, Int.toNat_natCast, he, text_Lower_eq (Bs.cons hx Bs.nil) (by simp), Option.bind_some,
      show ([x].map smallI) = [smallI x] from rfl, nums_size, if_pos (by simp), nums_bt (Bs.cons (by unfold smallI; split <;> omega) Bs.nil), show rd [smallI x] 0 = smallI x from rfl, hexa_index hx, Option.bind_some, hexFold]
    by_cases c : hv x < 0
    · rw [if_pos c, if_pos c]
    · rw [if_neg c, if_neg c, w64 (x := 16 * n) (by omega) (by omega), w64 (by omega) (by omega)]
      have := ih (p ++ [x]) (16 * n + hv x) k (by simpa using e) (by omega) (by rw [List.length_append, List.length_singleton, Int.pow_succ]; omega) (by simp at hk; omega)
      rw [show (((p ++ [x]).length : Nat) : Int) = (p.length : Int) + 1 by simp] at this
      exact this
theorem chunk_size_eq {k : Nat} {l : List Int} (hl : Bs l) (hn : l.length ≤ 100000) (hk : 10 ≤ k) : chunk_size.f k (strOfNums l) = some (csize l) := by
  obtain ⟨k, rfl⟩ : ∃ m, k = m + 1 := ⟨k - 1, by omega⟩
  have go : ∀ a : List Int, Bs a → a.length ≤ 6 → chunk_size.l0 k (strOfNums a) 0 ((strOfNums a).size : Int) 0 = some (hexFold 0 a) := fun a ha h6 => by
    have := chunk_size_l ha h6 a [] 0 k rfl (Int.le_refl _) (by decide) (by omega)
    rw [nums_size]
    exact this
  have fin : ∀ a b : List Int, Bs a → Bs b → (if (strOfNums a).toList = ([] : List UInt8) then chunk_size.j0 (k + 1) (strOfNums a) true else (if ((strOfNums a).size : Int) > 6 then chunk_size.j0 (k + 1) (strOfNums a) true else ((strings_ContainsFunc_chunk_size_1.f (strOfNums b)).bind fun t => chunk_size.j0 (k + 1) (strOfNums a) t))) = some (if a = [] ∨ 6 < a.length ∨ b.any ctlB = true then -1 else hexFold 0 a) := by
    intro a b ha hb
    simp only [chunk_size.j0]
    rw [nums_ifl ha, nums_size, contains_eq hb, Option.bind_some]
    by_cases c1 : a = []
    · rw [if_pos (by rw [c1]; rfl), if_pos trivial, if_pos (.inl c1)]
    · rw [if_neg (by simpa using c1)]
      by_cases c2 : 6 < a.length
      · rw [if_pos (by omega), if_pos trivial, if_pos (.inr (.inl c2))]
      · rw [if_neg (by omega)]
        by_cases c3 : b.any ctlB = true
        · rw [if_pos c3, if_pos (.inr (.inr c3))]
        · rw [if_neg c3, if_neg (by rintro (h | h | h); exact c1 h; exact c2 h; exact c3 h), ← nums_size]
          exact go a ha (by omega)
  unfold chunk_size.f
  rw [text_Cut_eq (by decide) hl (by omega), Option.bind_some]
  unfold csize
  cases hq : cutL 59 l with
  | none =>
    simp only
    have := fin l [] hl Bs.nil
    rw [this]
    simp
  | some q =>
    obtain ⟨a, b⟩ := q
    have e := (cutL_some hq).1
    simp only
    exact fin a b (Bs.left (b := 59 :: b) (e ▸ hl)) (Bs.right (a := a) (e ▸ hl)).tail
theorem mn_nat (a b : Nat) : mn (a : Int) (b : Int) = ((min a b : Nat) : Int) := by
  unfold mn
  split <;> omega
theorem chunk_line_eq {s P y : List Int} (hs : Bs s) (e : s = P ++ y) (hn : s.length ≤ 60000) : chunk_Get.line (strOfNums s) (P.length : Int) = some (match cutW (y.take 200) with | none => (strOfNums [], if 200 ≤ y.length then 4 else 11, (P.length : Int)) | some (a, _) => (strOfNums a, 0, ((P.length + a.length + 2 : Nat) : Int))) := by
  have hlen : s.length = P.length + y.length := by rw [e, List.length_append]
  have hd : (s.take s.length).drop P.length = y := by rw [List.take_length, e, List.drop_left' rfl]
  have hy : Bs y := Bs.right (a := P) (e ▸ hs)
  unfold chunk_Get.line
  rw [nums_size, if_pos ⟨by omega, by omega, by omega⟩, nums_ext, Int.toNat_natCast, hd, nums_size, show (200 : Int) = ((200 : Nat) : Int) from rfl, mn_nat, nums_ext, Int.toNat_natCast, List.drop_zero]
  have ht : y.take (min y.length 200) = y.take 200 := by
    by_cases h : y.length ≤ 200
    · rw [Nat.min_eq_left h, List.take_length, List.take_of_length_le h]
    · rw [Nat.min_eq_right (by omega)]
  rw [ht, strings_IndexW (hy.take _) (by rw [List.length_take]; omega), Option.bind_some]
  cases hq : cutW (y.take 200) with
  | none =>
    simp only
    rw [if_neg (by decide)]
    by_cases h : 200 ≤ y.length
    · rw [if_pos (by omega), if_pos h]; rfl
    · rw [if_neg (by omega), if_neg h]; rfl
  | some q =>
    obtain ⟨a, b⟩ := q
    obtain ⟨l1, l2, l3⟩ := cutW_len hq
    simp only
    rw [if_pos (by omega), if_pos (by omega), nums_ext, Int.toNat_natCast, List.drop_zero]
    have : y.take a.length = a := by rw [l3, List.take_left' rfl]
    rw [this]
    simp only [Option.some.injEq, Prod.mk.injEq, true_and]
    omega
theorem chunk_part_eq {s P z out : List Int} {n : Int} (hs : Bs s) (e : s = P ++ z) (hn : s.length ≤ 60000) (h0 : 0 < n) (h1 : n < 16777216) (ho : out.length ≤ 60000) :
    chunk_Get.part (strOfNums s) (P.length : Int) n out = some (if 16384 < (out.length : Int) + n then (4, (P.length : Int), out) else if (z.length : Int) < n + 2 then (11, (P.length : Int), out ++ z.take n.toNat) else if (z.drop n.toNat).take 2 = [13, 10] then (0, (P.length : Int) + n + 2, out ++ z.take n.toNat) else (12, (P.length : Int), out)) := by
  obtain ⟨m, rfl⟩ := Int.eq_ofNat_of_zero_le (Int.le_of_lt h0)
  have hlen : s.length = P.length + z.length := by rw [e, List.length_append]
  have hd : (s.take s.length).drop P.length = z := by rw [List.take_length, e, List.drop_left' rfl]
  have hz : Bs z := Bs.right (a := P) (e ▸ hs)
  unfold chunk_Get.part
  rw [nums_size, if_pos ⟨by omega, by omega, by omega, by omega, by omega, by omega⟩, nums_ext, Int.toNat_natCast, hd, nums_size]
  by_cases c1 : 16384 < (out.length : Int) + (m : Int)
  · rw [if_pos (by omega), if_pos c1]
  rw [if_neg (by omega), if_neg c1]
  by_cases c2 : (z.length : Int) < (m : Int) + 2
  · rw [if_pos c2, if_pos c2, mn_nat, nums_ext, Int.toNat_natCast, Int.toNat_natCast, List.drop_zero, nums_of (hz.take _)]
    have : z.take (min m z.length) = z.take m := by
      by_cases h : m ≤ z.length
      · rw [Nat.min_eq_left h]
      · rw [Nat.min_eq_right (by omega), List.take_length, List.take_of_length_le (by omega)]
    rw [this]
  rw [if_neg c2, if_neg c2, nums_ext, nums_ext, Int.toNat_natCast, show ((m : Int) + 2).toNat = m + 2 by omega, List.drop_zero, nums_of (hz.take _)]
  have : ((z.take (m + 2)).drop m) = (z.drop m).take 2 := by rw [List.drop_take, show m + 2 - m = 2 by omega]
  rw [this, nums_ifl ((hz.drop _).take _)]
  by_cases c3 : (z.drop m).take 2 = [13, 10]
  · rw [if_pos c3, if_pos (by rw [c3]; rfl)]
  · rw [if_neg c3, if_neg (by simpa using c3)]
def cfinal (r : Int × Int × List Int) : List Int × Int × Int := if r.1 = 0 then (r.2.2, r.2.1, 0) else if r.1 = 11 then (r.2.2, 0, 11) else ([], 0, r.1)
theorem chunk_Get_l {k : Nat} {s : List Int} (hs : Bs s) (hn : s.length ≤ 60000) (hk : 300000 < k) : ∀ (q : Nat) (y P out : List Int), s = P ++ y → y.length < q → out.length ≤ P.length →
    ∃ r, chunk_Get.l0 k (strOfNums s) q (P.length : Int) out = some r ∧ cfinal r = cgetL q y out P.length := by
  intro q
  induction q with
  | zero => intro y P out _ h; omega
  | succ q ih =>
    intro y P out e hq ho
    have hlen : s.length = P.length + y.length := by rw [e, List.length_append]
    have hy : Bs y := Bs.right (a := P) (e ▸ hs)
    rw [chunk_Get.l0, chunk_line_eq hs e hn, Option.bind_some]
    cases hw : cutW (y.take 200) with
    | none =>
      simp only
      rw [cgetL_none hw]
      by_cases h : 200 ≤ y.length
      · rw [if_pos h, if_neg (by decide), if_pos h]
        exact ⟨_, rfl, rfl⟩
      · rw [if_neg h, if_neg (by decide), if_neg h]
        exact ⟨_, rfl, rfl⟩
    | some ab =>
      obtain ⟨a, b⟩ := ab
      obtain ⟨l1, l2, l3⟩ := cutW_len hw
      have ha : Bs a := Bs.left (b := 13 :: 10 :: y.drop (a.length + 2)) (l3 ▸ hy)
      have hb := csize_bd a
      simp only
      rw [cgetL_some hw, if_pos trivial, chunk_size_eq ha (by omega) (by omega), Option.bind_some]
      by_cases c1 : csize a < 0
      · rw [if_pos c1, if_pos c1]
        exact ⟨_, rfl, rfl⟩
      rw [if_neg c1, if_neg c1]
      have e2 : s = (P ++ a ++ [13, 10]) ++ y.drop (a.length + 2) := by
        rw [e]
        conv => lhs; rw [l3]
        simp
      have hpl : (P ++ a ++ [13, 10]).length = P.length + a.length + 2 := by simp only [List.length_append, List.length_cons, List.length_nil]
      have hdz : (s.take s.length).drop (P.length + a.length + 2) = y.drop (a.length + 2) := by
        rw [List.take_length]
        conv => lhs; rw [e2]
        rw [List.drop_left' hpl]
      have hzl : (y.drop (a.length + 2)).length + a.length + 2 = y.length := by rw [List.length_drop]; omega
      by_cases c2 : csize a = 0
      · rw [if_pos c2, if_pos c2, nums_size, if_pos ⟨by omega, by omega⟩, nums_ext, Int.toNat_natCast, hdz, field_Get_eq (hy.drop _) (by omega) (by omega), Option.bind_some]
        refine ⟨_, rfl, ?_⟩
        have hle := fgetL_len (if (y.drop (a.length + 2)).length ≥ 2000 then 4 else 11) 2001 ((y.drop (a.length + 2)).take 2000) [] 0
        have htl : ((y.drop (a.length + 2)).take 2000).length ≤ y.length := by rw [List.length_take]; omega
        unfold cfinal cfin fget
        generalize fgetL (if (y.drop (a.length + 2)).length ≥ 2000 then 4 else 11) 2001 ((y.drop (a.length + 2)).take 2000) [] 0 = u at hle ⊢
        simp only
        rw [w64 (by omega) (by omega)]
      rw [if_neg c2, if_neg c2]
      have hpart := chunk_part_eq (n := csize a) (out := out) hs e2 hn (by omega) (by omega) (by omega)
      rw [hpl] at hpart
      rw [hpart, Option.bind_some]
      by_cases c3 : 16384 < (out.length : Int) + csize a
      · rw [if_pos c3, if_pos c3]
        simp only
        rw [if_neg (by decide)]
        exact ⟨_, rfl, rfl⟩
      rw [if_neg c3, if_neg c3]
      by_cases c4 : ((y.drop (a.length + 2)).length : Int) < csize a + 2
      · rw [if_pos c4, if_pos c4]
        simp only
        rw [if_neg (by decide)]
        exact ⟨_, rfl, rfl⟩
      rw [if_neg c4, if_neg c4]
      by_cases c5 : ((y.drop (a.length + 2)).drop (csize a).toNat).take 2 = [13, 10]
      · rw [if_pos c5, if_pos c5]
        simp only
        rw [if_pos trivial]
        have e3 : y.drop (a.length + 2) = (y.drop (a.length + 2)).take (csize a).toNat ++ (13 :: 10 :: (y.drop (a.length + 2)).drop ((csize a).toNat + 2)) := by
          generalize y.drop (a.length + 2) = z at c5 ⊢
          have h1 := (List.take_append_drop (csize a).toNat z).symm
          have h2 := (List.take_append_drop 2 (z.drop (csize a).toNat)).symm
          rw [c5, List.drop_drop] at h2
          rw [h2] at h1
          exact h1
        have htk : ((y.drop (a.length + 2)).take (csize a).toNat).length = (csize a).toNat := by rw [List.length_take]; omega
        have := ih ((y.drop (a.length + 2)).drop ((csize a).toNat + 2)) (P ++ a ++ [13, 10] ++ (y.drop (a.length + 2)).take (csize a).toNat ++ [13, 10]) (out ++ (y.drop (a.length + 2)).take (csize a).toNat)
          (by
              conv => lhs; rw [e2]
              simp only [List.append_assoc, List.cons_append, List.nil_append]
              rw [← e3]) (by rw [List.length_drop]; omega) (by simp only [List.length_append, List.length_cons, List.length_nil, htk]; omega)
        have hL : (P ++ a ++ ([13, 10] : List Int) ++ (y.drop (a.length + 2)).take (csize a).toNat ++ ([13, 10] : List Int)).length = P.length + a.length + 2 + (csize a).toNat + 2 := by simp only [List.length_append, List.length_cons, List.length_nil, htk]
        rw [hL] at this
        rw [show ((P.length + a.length + 2 : Nat) : Int) + csize a + 2 = ((P.length + a.length + 2 + (csize a).toNat + 2 : Nat) : Int) by omega]
        exact this
      · rw [if_neg c5, if_neg c5]
        simp only
        rw [if_neg (by decide)]
        exact ⟨_, rfl, rfl⟩
theorem chunk_Get_eq {k : Nat} {s : List Int} (hs : Bs s) (hn : s.length ≤ 60000) (hk : 300000 < k) : chunk_Get.f k (strOfNums s) = some (cgetL k s [] 0) := by
  obtain ⟨r, h1, h2⟩ := chunk_Get_l hs hn hk k s [] [] rfl (by omega) (Nat.le_refl _)
  unfold chunk_Get.f
  rw [show ((([] : List Int).length : Nat) : Int) = 0 from rfl] at h1
  rw [h1, Option.bind_some, show cgetL k s [] 0 = cfinal r from h2.symm]
  unfold cfinal
  split
  · rfl
  · split <;> rfl
theorem cgetL_fuel : ∀ (q q' : Nat) (y out : List Int) (p : Nat), y.length < q → y.length < q' → cgetL q y out p = cgetL q' y out p := by
  intro q
  induction q with
  | zero => intro q' y out p h; omega
  | succ q ih =>
    intro q' y out p h h'
    obtain ⟨q', rfl⟩ : ∃ n, q' = n + 1 := ⟨q' - 1, by omega⟩
    cases hw : cutW (y.take 200) with
    | none => rw [cgetL_none hw, cgetL_none hw]
    | some ab =>
      obtain ⟨a, b⟩ := ab
      obtain ⟨l1, l2, l3⟩ := cutW_len hw
      rw [cgetL_some hw, cgetL_some hw]
      have : ∀ o p', cgetL q ((y.drop (a.length + 2)).drop ((csize a).toNat + 2)) o p' = cgetL q' ((y.drop (a.length + 2)).drop ((csize a).toNat + 2)) o p' := fun o p' => ih _ _ _ _ (by rw [List.length_drop, List.length_drop]; omega) (by rw [List.length_drop, List.length_drop]; omega)
      rw [this]
theorem tdiv_nat (n : Nat) : Int.tdiv (n : Int) 16 = ((n / 16 : Nat) : Int) := rfl
theorem tmod_nat (n : Nat) : Int.tmod (n : Int) 16 = ((n % 16 : Nat) : Int) := rfl
theorem chunk_hex1 {k n : Nat} (h : n < 16) : chunk_hex.f (k + 1) (n : Int) = some (strOfNums [dg (n : Int)]) := by
  have hx : ∀ m : Fin 16, (⟨#[48, 49, 50, 51, 52, 53, 54, 55, 56, 57, 97, 98, 99, 100, 101, 102]⟩ : ByteArray).extract ((m.val : Nat) : Int).toNat (((m.val : Nat) : Int) + 1).toNat = strOfNums [dg ((m.val : Nat) : Int)] := by decide +kernel
  rw [chunk_hex.f, if_pos (by omega), if_pos (by omega), w64 (by omega) (by omega), if_pos (by omega), if_pos (by omega), hx ⟨n, h⟩]
theorem chunk_hex2 {k n : Nat} {a b : List Int} (h : ¬ n < 16) (hn : n < 100000) (ha : chunk_hex.f k ((n / 16 : Nat) : Int) = some (strOfNums a)) (hb : chunk_hex.f k ((n % 16 : Nat) : Int) = some (strOfNums b)) (hl : a.length + b.length ≤ 1000) : chunk_hex.f (k + 1) (n : Int) = some (strOfNums (a ++ b)) := by
  rw [chunk_hex.f, if_neg (by omega), tdiv_nat, tmod_nat, w64 (by omega) (by omega), ha, Option.bind_some, hb, Option.bind_some, nums_size, nums_size, if_pos (by omega), nums_app]
theorem chunk_hex_eq {n k : Nat} (hn : n ≤ 4096) (hk : 10 ≤ k) : chunk_hex.f k (n : Int) = some (strOfNums (chex (n : Int))) := by
  refine at_rounds (fun a => chunk_hex.mono _ a) hk ?_
  have d1 : ((n / 16 : Nat) : Int) = (n : Int) / 16 := by omega
  have d2 : ((n / 16 / 16 : Nat) : Int) = (n : Int) / 256 := by omega
  have d3 : ((n / 16 / 16 / 16 : Nat) : Int) = (n : Int) / 4096 := by omega
  have m1 : ((n % 16 : Nat) : Int) = (n : Int) % 16 := by omega
  have m2 : ((n / 16 % 16 : Nat) : Int) = (n : Int) / 16 % 16 := by omega
  have m3 : ((n / 16 / 16 % 16 : Nat) : Int) = (n : Int) / 256 % 16 := by omega
  have r1 := chunk_hex1 (k := 8) (n := n % 16) (by omega)
  have r2 := chunk_hex1 (k := 7) (n := n / 16 % 16) (by omega)
  have r3 := chunk_hex1 (k := 6) (n := n / 16 / 16 % 16) (by omega)
  unfold chex
  by_cases h1 : n < 16
  · rw [if_pos (by omega)]
    exact chunk_hex1 h1
  rw [if_neg (by omega)]
  by_cases h2 : n < 256
  · rw [if_pos (by omega), ← d1, ← m1]
    exact chunk_hex2 h1 (by omega) (chunk_hex1 (by omega)) r1 (by simp)
  rw [if_neg (by omega)]
  by_cases h3 : n < 4096
  · rw [if_pos (by omega), ← d2, ← m2, ← m1]
    exact chunk_hex2 (a := [_, _]) h1 (by omega) (chunk_hex2 (a := [_]) (b := [_]) (by omega) (by omega) (chunk_hex1 (by omega)) r2 (by simp)) r1 (by simp)
  · rw [if_neg (by omega), ← d3, ← m3, ← m2, ← m1]
    exact chunk_hex2 (a := [_, _, _]) h1 (by omega) (chunk_hex2 (a := [_, _]) (b := [_]) (by omega) (by omega) (chunk_hex2 (a := [_]) (b := [_]) (by omega) (by omega) (chunk_hex1 (by omega)) r3 (by simp)) r2 (by simp)) r1 (by simp)
theorem chex_Bs {n : Nat} (h : n ≤ 4096) : Bs (chex (n : Int)) := fun c hc => by
  have := (chex_eq h).2.2 c hc
  omega
theorem chunk_Put_l {k : Nat} {size : Nat} (h0 : 0 < size) (hs : size ≤ 4096) (hk : 10 ≤ k) : ∀ (q : Nat) (b out : List Int), Bs b → b.length < q → b.length ≤ 60000 → out.length + 20 * b.length ≤ 2000000 →
    chunk_Put.l0 k (size : Int) q b out = some (out ++ cputL size q b) := by
  intro q
  induction q with
  | zero => intro b out _ h; omega
  | succ q ih =>
    intro b out hb hq hb6 ho
    rw [chunk_Put.l0]
    by_cases hn : b = []
    · subst hn
      rw [if_neg (by simp), if_pos (by simp at ho; omega), cputL_nil]
      rfl
    · have hl : 0 < b.length := List.length_pos_iff.mpr hn
      rw [if_pos (by omega), if_pos ⟨by omega, by omega⟩, mn_nat, cputL_cons hn]
      generalize hN : min size b.length = n
      obtain ⟨c1, c2, c3⟩ := chex_eq (n := n) (by omega)
      rw [chunk_hex_eq (by omega) hk, Option.bind_some, nums_size, if_pos (by omega), Int.toNat_natCast, show (⟨#[13, 10]⟩ : ByteArray) = strOfNums [13, 10] from rfl, ← nums_app, nums_of ((chex_Bs (by omega)).app (Bs.dec rfl)), nums_of (Bs.dec rfl)]
      rw [ih _ _ (hb.drop _) (by rw [List.length_drop]; omega) (by rw [List.length_drop]; omega) (by simp only [List.length_append, List.length_drop, List.length_take, List.length_cons, List.length_nil]; omega)]
      simp
theorem chunk_Put_eq {k : Nat} {b : List Int} {z : Int} (hb : Bs b) (hn : b.length ≤ 60000) (hk : 100000 < k) : chunk_Put.f k b z = some (cputL (max 1 (min z 4096)).toNat k b) := by
  unfold chunk_Put.f
  have hm : mx 1 (mn z 4096) = (((max 1 (min z 4096)).toNat : Nat) : Int) := by unfold mx mn; omega
  rw [hm, chunk_Put_l (by omega) (by omega) (by omega) k b [] hb (by omega) hn (by simp; omega)]
  rfl
theorem cputL_fuel (size : Nat) (h0 : 0 < size) : ∀ (q q' : Nat) (b : List Int), b.length ≤ q → b.length ≤ q' → cputL size q b = cputL size q' b := by
  intro q
  induction q with
  | zero =>
    intro q' b h h'
    obtain rfl : b = [] := List.length_eq_zero_iff.mp (by omega)
    rw [cputL_nil, cputL_nil]
  | succ q ih =>
    intro q' b h h'
    by_cases hn : b = []
    · subst hn; rw [cputL_nil, cputL_nil]
    · have hl : 0 < b.length := List.length_pos_iff.mpr hn
      obtain ⟨q', rfl⟩ : ∃ n, q' = n + 1 := ⟨q' - 1, by omega⟩
      rw [cputL_cons hn, cputL_cons hn, ih q' _ (by rw [List.length_drop]; omega) (by rw [List.length_drop]; omega)]

theorem awake_eq {k : Nat} (hk : 400 ≤ k) : newsreellaw30_awake.f k = some true := at_rounds newsreellaw30_awake.mono hk (by kernel_rfl)
theorem bytes_same {a : List Int} : newsreelref01_Bytes.f a a = some true := by
  unfold newsreelref01_Bytes.f
  rw [beq_self_eq_true]
theorem cputL_Bs {size : Nat} (hs : size ≤ 4096) : ∀ (q : Nat) (b : List Int), Bs b → Bs (cputL size q b) := by
  intro q
  induction q with
  | zero => intro b _; exact Bs.dec rfl
  | succ q ih =>
    intro b hb
    by_cases hn : b = []
    · subst hn; rw [cputL_nil]; exact Bs.dec rfl
    · rw [cputL_cons hn]
      exact (chex_Bs (by omega)).app (Bs.cons (by decide) (Bs.cons (by decide) ((hb.take _).app (Bs.cons (by decide) (Bs.cons (by decide) (ih _ (hb.drop _)))))))
theorem cputL_le {size : Nat} (h0 : 0 < size) (hs : size ≤ 4096) : ∀ (q : Nat) (b : List Int), (cputL size q b).length ≤ 9 * b.length + 5 := by
  intro q
  induction q with
  | zero => intro b; simp only [cputL, List.length_cons, List.length_nil]; omega
  | succ q ih =>
    intro b
    by_cases hn : b = []
    · subst hn; rw [cputL_nil]; simp
    · have hl : 0 < b.length := List.length_pos_iff.mpr hn
      rw [cputL_cons hn]
      have := ih (b.drop (min size b.length))
      have hc := (chex_eq (n := min size b.length) (by omega)).2.1
      rw [List.length_drop] at this
      simp only [List.length_append, List.length_cons, List.length_take]
      omega
theorem j3_eq {k : Nat} (hk : 500000 < k) {s m : ByteArray} (hs : s.size ≤ 600) (hm : m.size ≤ 300) : newsreellaw30_ChunkBack.j3 (k + 1) s m false = some true := by
  simp only [newsreellaw30_ChunkBack.j3]
  rw [if_neg (by decide)]
  rw [size_list] at hs hm
  have h1 := chunk_Get_eq (k := k) (Bs.of s) (by omega) (by omega)
  have h2 := chunk_Get_eq (k := k) ((Bs.of s).app (Bs.of m)) (by rw [List.length_append]; omega) (by omega)
  rw [nums_app, nums_bytesOf, nums_bytesOf] at h2
  rw [nums_bytesOf] at h1
  rw [h1, Option.bind_some, if_pos (by rw [size_list, size_list]; omega), h2, Option.bind_some, awake_eq (by omega), Option.bind_some]
  by_cases c : (cgetL k (bytesOf s) [] 0).2.2 = 11
  · rw [if_pos c]
  · rw [if_neg c]
    rcases cgetL_stay (bytesOf m) k k (bytesOf s) [] 0 (by omega) (by rw [List.length_append]; omega) with h | h
    · exact absurd h c
    · rw [h, bytes_same, Option.bind_some, if_pos rfl, if_pos rfl, if_pos rfl]
theorem j2_eq {k q size cut : Nat} (hk : 500000 < k) {b : List Int} (hb : Bs b) (hl : b.length ≤ 400) (h0 : 0 < size) (hz : size ≤ 4096) (hq : b.length ≤ q) (hc : cut < (cputL size q b).length) {s m : ByteArray} (hs : s.size ≤ 600) (hm : m.size ≤ 300) :
    newsreellaw30_ChunkBack.j2 (k + 2) b s m (cputL size q b) (cut : Int) = some true := by
  have hle := cputL_le h0 hz q b
  simp only [newsreellaw30_ChunkBack.j2]
  rw [if_pos (by omega), if_pos (by omega), Int.toNat_natCast]
  obtain ⟨j, hj, hcut⟩ := cget_cut h0 hz q b [] 0 (k + 1) cut hq hc (by omega) (by rw [List.length_nil]; omega)
  have hG := chunk_Get_eq (k := k + 1) ((cputL_Bs hz q b hb).take cut) (by rw [List.length_take]; omega) (by omega)
  have hlen : (b.take j).length = j := by rw [List.length_take]; omega
  rw [hG, Option.bind_some, hcut, List.nil_append, if_pos rfl, if_pos rfl, hlen, if_neg (by omega), if_pos (by omega), if_pos (by omega), Int.toNat_natCast, bytes_same, Option.bind_some, Bool.not_true]
  exact j3_eq hk hs hm
theorem j1_eq {k q size : Nat} (hk : 500000 < k) {b : List Int} (hb : Bs b) (hl : b.length ≤ 400) (h0 : 0 < size) (hz : size ≤ 4096) (hq : b.length ≤ q) {s m : ByteArray} (hs : s.size ≤ 600) (hm : m.size ≤ 300) (i c : Int) :
    newsreellaw30_ChunkBack.j1 (k + 3) b s m (cputL size q b) false i c = some true := by
  have hne := cputL_ne size q b
  have hle := cputL_le h0 hz q b
  simp only [newsreellaw30_ChunkBack.j1]
  rw [if_neg (by decide), if_neg (by omega)]
  have ha : (Int.tmod c ((cputL size q b).length : Int)).natAbs < (cputL size q b).length := by
    rw [Int.natAbs_tmod]
    exact Nat.mod_lt _ (by omega)
  generalize Int.tmod c ((cputL size q b).length : Int) = r at ha ⊢
  by_cases hr : r < 0
  · rw [if_pos hr, w64 (by omega) (by omega), show -r = ((r.natAbs : Nat) : Int) by omega]
    exact j2_eq hk hb hl h0 hz hq ha hs hm
  · rw [if_neg hr, show r = ((r.natAbs : Nat) : Int) by omega]
    exact j2_eq hk hb hl h0 hz hq ha hs hm
theorem j0_true {k : Nat} (hk : 400 ≤ k) (b : List Int) (s m : ByteArray) (i c : Int) : newsreellaw30_ChunkBack.j0 (k + 1) b s m true i c = some true := by
  simp only [newsreellaw30_ChunkBack.j0]
  rw [if_pos trivial, awake_eq hk, Option.bind_some]
theorem j0_eq {k : Nat} (hk : 500000 < k) {b : List Int} (hb : Bs b) (hl : b.length ≤ 400) {s m : ByteArray} (hs : s.size ≤ 600) (hm : m.size ≤ 300) (i c : Int) :
    newsreellaw30_ChunkBack.j0 (k + 4) b s m false i c = some true := by
  simp only [newsreellaw30_ChunkBack.j0]
  rw [if_neg (by decide), chunk_Put_eq hb (by omega) (by omega), Option.bind_some]
  have h0 : 0 < (max 1 (min i 4096)).toNat := by omega
  have hz : (max 1 (min i 4096)).toNat ≤ 4096 := by omega
  generalize (max 1 (min i 4096)).toNat = size at h0 hz ⊢
  have hne := cputL_ne size (k + 3) b
  have hle := cputL_le h0 hz (k + 3) b
  have hm2 := hm
  rw [size_list] at hm2
  have hG := chunk_Get_eq (k := k + 3) ((cputL_Bs hz (k + 3) b hb).app (Bs.of m)) (by rw [List.length_append]; omega) (by omega)
  rw [nums_app, nums_bytesOf, cget_cput (bytesOf m) h0 hz (k + 3) b [] 0 (k + 3) (by omega) (by omega) (by rw [List.length_nil]; omega), List.nil_append, Nat.zero_add] at hG
  rw [if_pos (by rw [nums_size, size_list]; omega), hG, Option.bind_some, if_neg (by omega), if_pos rfl, if_pos rfl, bytes_same, Option.bind_some, Bool.not_true]
  exact j1_eq hk hb hl h0 hz (by omega) hs hm i c
theorem ChunkBack : newsreellaw30_ChunkBack.Pure := by
  intro b x y hb hx hy
  refine ⟨500005, ?_⟩
  have hbb : Bs b := fun x hx => wf_u8 (hb.2.2 x hx)
  unfold newsreellaw30_ChunkBack.f
  by_cases c1 : (b.length : Int) > 400
  · rw [if_pos c1]
    exact j0_true (k := 500004) (by decide) _ _ _ _ _
  rw [if_neg c1]
  by_cases c2 : (y.f0.size : Int) > 600
  · rw [if_pos c2]
    exact j0_true (k := 500004) (by decide) _ _ _ _ _
  rw [if_neg c2]
  by_cases c3 : (y.f1.size : Int) > 300
  · rw [decide_eq_true c3]
    exact j0_true (k := 500004) (by decide) _ _ _ _ _
  rw [decide_eq_false c3]
  exact j0_eq (k := 500001) (by decide) hbb (by omega) (by omega) (by omega) _ _
end Go.Proofs.YtnojbokkmjhknaaDoor.Pure
