/- The law FieldBack is true for every input: the fields whose lines Put shows are got by Get, whatever stands behind them; what Get tells of a text stays when more bytes come, but that there were too few. No condition beyond the row's own. -/
import Derived.Test.YthoeajocamafkaaDoorPFieldBackx5
import Derived.Test.YthoeajocamafkaaDoorStr
set_option linter.unusedVariables false
set_option linter.unusedSimpArgs false
namespace Go.Proofs.YthoeajocamafkaaDoor.Pure
open Go Go.RowKit Go.Proofs.YthoeajocamafkaaDoor.PFieldBack Go.Proofs.YthoeajocamafkaaDoorW.PrintWords Go.Proofs.YthoeajocamafkaaDoorW.PrintLast Go.Proofs.YthoeajocamafkaaDoorW.PrintMore Go.Proofs.YthoeajocamafkaaDoor.Kit Go.Proofs.YthoeajocamafkaaDoor.Str

theorem text_Cut_eq {c : Int} (hc : 0 ≤ c ∧ c < 256) {l : List Int} (hl : Bs l) (hn : l.length ≤ 140737488351232) :
    text_Cut.f (strOfNums l) c = some (match cutL c l with | none => (strOfNums l, strOfNums [], false) | some (a, b) => (strOfNums a, strOfNums b, true)) := by
  unfold text_Cut.f strings_IndexByte.f
  rw [nums_index c hc hl, Option.bind_some, nums_size]
  cases h : cutL c l with
  | none => rfl
  | some p =>
    obtain ⟨a, b⟩ := p
    obtain ⟨e, _⟩ := cutL_some h
    have hlen : l.length = a.length + (b.length + 1) := by rw [e]; simp
    simp only
    rw [if_neg (by omega), if_pos (by omega), if_pos (by omega), w64 (by omega) (by omega), if_pos (by omega), if_pos (by omega), nums_ext, nums_ext]
    have h1 : ((a.length : Int)).toNat = a.length := by omega
    have h2 : ((a.length : Int) + 1).toNat = a.length + 1 := by omega
    have e1 : (l.take a.length).drop 0 = a := by rw [e]; simp
    have e2 : (l.take l.length).drop (a.length + 1) = b := by
      rw [List.take_length, e, show a ++ c :: b = (a ++ [c]) ++ b by simp, List.drop_left' (by simp)]
    rw [h1, h2, e1, e2]

/-! ### the first line's end, in a list of numbers -/
def cutW : List Int → Option (List Int × List Int)
  | [] => none
  | [_] => none
  | x :: y :: l => if x = 13 ∧ y = 10 then some ([], l) else (cutW (y :: l)).map fun p => (x :: p.1, p.2)
theorem cutW_app {r : List Int} : ∀ {l a b : List Int}, cutW l = some (a, b) → cutW (l ++ r) = some (a, b ++ r)
  | [], _, _, h => by cases h
  | [_], _, _, h => by cases h
  | x :: y :: l, a, b, h => by
    rw [cutW] at h
    show cutW (x :: y :: (l ++ r)) = _
    rw [cutW]
    by_cases c : x = 13 ∧ y = 10
    · rw [if_pos c] at h ⊢
      cases h
      rfl
    · rw [if_neg c] at h ⊢
      obtain ⟨⟨a', b'⟩, h1, h2⟩ := Option.map_eq_some_iff.mp h
      cases h2
      have := cutW_app (r := r) h1
      rw [show y :: (l ++ r) = (y :: l) ++ r from rfl, this]
      rfl
theorem cutW_some : ∀ {l a b : List Int}, cutW l = some (a, b) → l = a ++ 13 :: 10 :: b
  | [], _, _, h => by cases h
  | [_], _, _, h => by cases h
  | x :: y :: l, a, b, h => by
    rw [cutW] at h
    by_cases c : x = 13 ∧ y = 10
    · rw [if_pos c] at h
      cases h
      rw [c.1, c.2]
      rfl
    · rw [if_neg c] at h
      obtain ⟨⟨a', b'⟩, h1, h2⟩ := Option.map_eq_some_iff.mp h
      cases h2
      rw [cutW_some h1]
      rfl
theorem u8_eq {x : Int} (hx : 0 ≤ x ∧ x < 256) (b : UInt8) : (b == x.toNat.toUInt8) = decide (x = (b.toNat : Int)) := by
  have hb := b.toNat_lt
  by_cases h : x = (b.toNat : Int)
  · subst h; simp
  · rw [decide_eq_false h, beq_eq_false_iff_ne]
    intro e
    have := congrArg UInt8.toNat e
    simp only [Nat.toUInt8, UInt8.toNat_ofNat'] at this
    omega
theorem index_W : ∀ (l : List Int), Bs l → Lib.index (l.map fun y => y.toNat.toUInt8) [13, 10] = match cutW l with | none => -1 | some (a, _) => (a.length : Int)
  | [], _ => rfl
  | [x], h => by
    rw [cutW, List.map_cons, List.map_nil, Lib.index, Lib.index]
    have : List.isPrefixOf [13, 10] [x.toNat.toUInt8] = false := by simp [List.isPrefixOf]
    rw [this]
    rfl
  | x :: y :: l, h => by
    have hp : List.isPrefixOf [13, 10] ((x :: y :: l).map fun y => y.toNat.toUInt8) = decide (x = 13 ∧ y = 10) := by
      simp only [List.map_cons, List.isPrefixOf, Bool.and_true]
      rw [u8_eq h.head, u8_eq h.tail.head]
      simp
    rw [List.map_cons, Lib.index, ← List.map_cons (f := fun y : Int => y.toNat.toUInt8), hp, index_W (y :: l) h.tail, cutW]
    by_cases c : x = 13 ∧ y = 10
    · rw [decide_eq_true c, if_pos rfl, if_pos c]
      rfl
    · rw [decide_eq_false c, if_neg (by decide), if_neg c]
      cases hq : cutW (y :: l) with
      | none => rfl
      | some p =>
        obtain ⟨a, b⟩ := p
        simp only [Option.map_some]
        rw [if_neg (by simp <;> omega)]
        simp
theorem strings_IndexW {l : List Int} (hl : Bs l) (hn : l.length ≤ 100000) : strings_Index.f (strOfNums l) (⟨#[13, 10]⟩ : ByteArray) = some (match cutW l with | none => -1 | some (a, _) => (a.length : Int)) := by
  unfold strings_Index.f stringslite_Index.f
  rw [nums_size, if_pos (by omega), Option.bind_some, nums_data, show (⟨#[13, 10]⟩ : ByteArray).data.toList = [13, 10] from rfl, index_W l hl]

theorem dw_nil {α : Type} (p : α → Bool) : ∀ l : List α, l.dropWhile p = [] ↔ ∀ x ∈ l, p x = true
  | [] => by simp
  | x :: l => by
    rw [List.dropWhile_cons]
    by_cases h : p x = true
    · rw [if_pos h, dw_nil p l]
      constructor
      · intro hl y hy
        rcases List.mem_cons.mp hy with rfl | hy
        · exact h
        · exact hl y hy
      · intro hl y hy
        exact hl y (List.mem_cons_of_mem _ hy)
    · rw [if_neg h]
      constructor
      · intro e; cases e
      · intro hl; exact absurd (hl x (List.mem_cons_self ..)) h
theorem dw_head {α : Type} (p : α → Bool) : ∀ (l : List α) {x : α} {r : List α}, l.dropWhile p = x :: r → p x = false
  | [], _, _, h => by cases h
  | y :: l, x, r, h => by
    rw [List.dropWhile_cons] at h
    by_cases hy : p y = true
    · rw [if_pos hy] at h; exact dw_head p l h
    · rw [if_neg hy] at h
      cases h
      simpa using hy
theorem trimS_nil (l cs : List UInt8) : Lib.trimS l cs = [] ↔ ∀ x ∈ l, cs.contains x = true := by
  unfold Lib.trimS Lib.trimLeftS Lib.trimRightS
  constructor
  · intro h
    rw [dw_nil] at h
    cases hn : l.reverse.dropWhile (cs.contains ·) with
    | nil =>
      rw [dw_nil] at hn
      intro x hx
      exact hn x (List.mem_reverse.mpr hx)
    | cons x r =>
      have h1 := dw_head _ _ hn
      have h2 := h x (List.mem_reverse.mpr (by rw [hn]; exact List.mem_cons_self ..))
      rw [h2] at h1
      cases h1
  · intro h
    have : l.reverse.dropWhile (cs.contains ·) = [] := (dw_nil _ _).mpr fun x hx => h x (List.mem_reverse.mp hx)
    rw [this]
    rfl
theorem trim_all {l : List Int} (hl : Bs l) (cs : List UInt8) : ∀ x ∈ l, cs.contains x.toNat.toUInt8 = (cs.map fun b => (b.toNat : Int)).contains x := by
  intro x hx
  have := hl x hx
  rw [Bool.eq_iff_iff, List.contains_iff_mem, List.contains_iff_mem, List.mem_map]
  constructor
  · intro h
    exact ⟨_, h, by simp only [Nat.toUInt8, UInt8.toNat_ofNat']; omega⟩
  · rintro ⟨b, hb, e⟩
    have : x.toNat.toUInt8 = b := by rw [← e]; simp
    rwa [this]

/-! ### text: Trim -/
def blankB (x : Int) : Bool := ([32, 9] : List UInt8).contains x.toNat.toUInt8
def trL (l : List Int) : List Int := l.dropWhile blankB
def trR (l : List Int) : List Int := (l.reverse.dropWhile blankB).reverse
theorem trL_cons (x : Int) (l : List Int) : trL (x :: l) = if blankB x = true then trL l else x :: l := by
  unfold trL
  rw [List.dropWhile_cons]
theorem trR_cons (x : Int) (l : List Int) : trR (x :: l) = if trR l = [] then (if blankB x = true then [] else [x]) else x :: trR l := by
  unfold trR
  rw [List.reverse_cons, List.dropWhile_append]
  cases h : l.reverse.dropWhile blankB with
  | nil =>
    by_cases hb : blankB x = true <;> simp [hb]
  | cons y r =>
    rw [if_neg (by simp), if_neg (by simp), List.reverse_append]
    rfl
theorem trLR : ∀ l : List Int, trL (trR l) = trR (trL l)
  | [] => rfl
  | x :: l => by
    rw [trR_cons, trL_cons]
    by_cases hx : blankB x = true
    · rw [if_pos hx, if_pos hx, ← trLR l]
      by_cases h : trR l = []
      · rw [if_pos h, h]
      · rw [if_neg h, trL_cons, if_pos hx]
    · rw [if_neg hx, if_neg hx, trR_cons, if_neg hx]
      by_cases h : trR l = []
      · rw [if_pos h, trL_cons, if_neg hx]
      · rw [if_neg h, trL_cons, if_neg hx]
theorem trLL : ∀ l : List Int, trL (trL l) = trL l
  | [] => rfl
  | x :: l => by
    rw [trL_cons]
    by_cases hx : blankB x = true
    · rw [if_pos hx, trLL l]
    · rw [if_neg hx, trL_cons, if_neg hx]
theorem trRR (l : List Int) : trR (trR l) = trR l := by
  unfold trR
  rw [List.reverse_reverse]
  exact congrArg List.reverse (trLL l.reverse)
theorem tr_tr (l : List Int) : trL (trR (trL (trR l))) = trL (trR l) := by
  rw [← trLR (trR l), trRR, trLL]
theorem trL_sub : ∀ {l : List Int} {x : Int}, x ∈ trL l → x ∈ l
  | [], _, h => by cases h
  | y :: l, x, h => by
    rw [trL_cons] at h
    split at h
    · exact List.mem_cons_of_mem _ (trL_sub h)
    · exact h
theorem trR_sub {l : List Int} {x : Int} (h : x ∈ trR l) : x ∈ l := by
  unfold trR at h
  exact List.mem_reverse.mp (trL_sub (l := l.reverse) (List.mem_reverse.mp h))
theorem trL_len : ∀ l : List Int, (trL l).length ≤ l.length
  | [] => by simp [trL]
  | y :: l => by
    have := trL_len l
    rw [trL_cons]
    split <;> simp <;> omega
theorem trR_len (l : List Int) : (trR l).length ≤ l.length := by
  have := trL_len l.reverse
  unfold trR
  unfold trL at this
  simpa using this
theorem trL_Bs {l : List Int} (h : Bs l) : Bs (trL l) := fun x hx => h x (trL_sub hx)
theorem trR_Bs {l : List Int} (h : Bs l) : Bs (trR l) := fun x hx => h x (trR_sub hx)
theorem trims_map (l : List Int) : Lib.trimS (l.map fun y => y.toNat.toUInt8) [32, 9] = (trL (trR l)).map fun y => y.toNat.toUInt8 := by
  unfold Lib.trimS Lib.trimLeftS Lib.trimRightS trL trR
  rw [← List.map_reverse, List.dropWhile_map, ← List.map_reverse, List.dropWhile_map]
  rfl
theorem text_Trim_eq {l : List Int} (hn : l.length ≤ 140737488351232) : text_Trim.f (strOfNums l) = some (strOfNums (trL (trR l))) := by
  unfold text_Trim.f strings_Trim.f
  rw [nums_size, if_pos ⟨by omega, by decide, by decide⟩, Option.bind_some, nums_data]
  have : (⟨#[32, 9]⟩ : ByteArray).data.toList = [32, 9] := rfl
  rw [this, trims_map]
  rfl

/-! ### text: Token, Plain -/
def signB (c : Int) : Bool := (text_sign.f c).getD false
theorem sign_all : ∀ c : Fin 256, text_sign.f (c.val : Int) = some (signB (c.val : Int)) := by decide +kernel
theorem sign_eq {c : Int} (h : 0 ≤ c ∧ c < 256) : text_sign.f c = some (signB c) := by
  obtain ⟨n, rfl⟩ := Int.eq_ofNat_of_zero_le h.1
  exact sign_all ⟨n, by omega⟩
theorem text_all_sign_l {l : List Int} (hl : Bs l) (hn : l.length < 90000) : ∀ (t p : List Int) (k : Nat), l = p ++ t → t.length < k → text_all_text_sign.l0 k (strOfNums l) (l.length : Int) (p.length : Int) = some (t.all signB) := by
  intro t
  induction t with
  | nil =>
    intro p k e hk
    obtain ⟨k, rfl⟩ : ∃ m, k = m + 1 := ⟨k - 1, by simp at hk; omega⟩
    simp only [text_all_text_sign.l0]
    rw [if_neg (by rw [e]; simp)]
    rfl
  | cons c t ih =>
    intro p k e hk
    obtain ⟨k, rfl⟩ : ∃ m, k = m + 1 := ⟨k - 1, by simp at hk; omega⟩
    have hlen : l.length = p.length + (t.length + 1) := by rw [e]; simp
    have hc : rd l (p.length : Int) = c := by rw [e]; exact rd_app p t c
    have bc : 0 ≤ c ∧ c < 256 := hl c (by rw [e]; simp)
    have hi := ih (p ++ [c]) k (by simpa using e) (by simp at hk; omega)
    have hcast : (((p ++ [c]).length : Nat) : Int) = (p.length : Int) + 1 := by simp
    rw [hcast] at hi
    simp only [text_all_text_sign.l0]
    rw [nums_size, if_pos (by omega), if_pos (by omega), if_pos (by omega), nums_bt hl, hc, sign_eq bc, Option.bind_some, w64 (by omega) (by omega), List.all_cons, hi]
    cases signB c
    · rw [if_neg (by decide)]; rfl
    · rw [if_pos rfl]; rfl
def tokenB (l : List Int) : Bool := decide (l ≠ []) && l.all signB
theorem text_Token_eq {k : Nat} {l : List Int} (hl : Bs l) (hn : l.length < 90000) (hk : 100000 < k) : text_Token.f k (strOfNums l) = some (tokenB l) := by
  unfold text_Token.f text_all_text_sign.f tokenB
  rw [nums_ifl hl, nums_size]
  by_cases h : l = []
  · rw [if_pos (by rw [h]; rfl), h]; rfl
  · have := text_all_sign_l hl hn l [] k rfl (by omega)
    rw [if_neg (fun e => h (by simpa using e)), show ((0 : Int)) = (([] : List Int).length : Int) from rfl, this, Option.bind_some, decide_eq_true h, Bool.true_and]

theorem rdF_app (p t : List S27) (x : S27) : rd_T27 (p ++ x :: t) (p.length : Int) = x := by simp [rd_T27]
theorem few_l {L : List S27} (hn : L.length ≤ 30) : ∀ (t p : List S27) (k : Nat), L = p ++ t → t.length < k →
    ∃ b, newsreelref25_Few.l0 k L (p.length : Int) = some b ∧ (b = true → ∀ x ∈ t, x.f0.size ≤ 300 ∧ x.f1.size ≤ 2100) := by
  intro t
  induction t with
  | nil =>
    intro p k e hk
    obtain ⟨k, rfl⟩ : ∃ m, k = m + 1 := ⟨k - 1, by simp at hk; omega⟩
    have hlen : L.length = p.length := by rw [e, List.append_nil]
    simp only [newsreelref25_Few.l0]
    rw [if_neg (by omega)]
    exact ⟨true, rfl, fun _ x hx => by cases hx⟩
  | cons x t ih =>
    intro p k e hk
    obtain ⟨k, rfl⟩ : ∃ m, k = m + 1 := ⟨k - 1, by simp at hk; omega⟩
    have hlen : L.length = p.length + (t.length + 1) := by rw [e]; simp
    have hr : rd_T27 L (p.length : Int) = x := by rw [e]; exact rdF_app p t x
    obtain ⟨b, h1, h2⟩ := ih (p ++ [x]) k (by simpa using e) (by simp at hk; omega)
    have hcast : (((p ++ [x]).length : Nat) : Int) = (p.length : Int) + 1 := by simp
    rw [hcast] at h1
    simp only [newsreelref25_Few.l0]
    rw [if_pos (by omega), if_pos (by omega), hr, w64 (by omega) (by omega), h1]
    by_cases g1 : (x.f0.size : Int) > 300
    · rw [if_pos g1]; exact ⟨false, rfl, fun h => by cases h⟩
    · rw [if_neg g1]
      by_cases g2 : (x.f1.size : Int) > 2100
      · rw [if_pos g2]; exact ⟨false, rfl, fun h => by cases h⟩
      · rw [if_neg g2]
        refine ⟨b, rfl, fun h y hy => ?_⟩
        rcases List.mem_cons.mp hy with rfl | hy
        · omega
        · exact h2 h y hy
theorem few_eq {k : Nat} {l : List S27} (hk : 100 ≤ k) : ∃ b, newsreelref25_Few.f k l = some b ∧ (b = true → l.length ≤ 100000 ∧ ∀ x ∈ l, x.f0.size ≤ 100000 ∧ x.f1.size ≤ 100000) := by
  unfold newsreelref25_Few.f
  by_cases h : (l.length : Int) > 30
  · rw [if_pos h]; exact ⟨false, rfl, fun h => by cases h⟩
  · rw [if_neg h]
    obtain ⟨b, h1, h2⟩ := few_l (L := l) (by omega) l [] k rfl (by omega)
    refine ⟨b, h1, fun hb => ⟨by omega, fun x hx => ?_⟩⟩
    have := h2 hb x hx
    omega
theorem few_len {k : Nat} {l : List S27} (h : newsreelref25_Few.f k l = some true) : l.length ≤ 10000 := by
  unfold newsreelref25_Few.f at h
  by_cases h1 : (l.length : Int) > 30
  · rw [if_pos h1] at h; cases h
  · omega

/-! ### a field, right or not -/
def okV (c : Int) : Bool := decide (¬ ((c < 32 ∧ c ≠ 9) ∨ c = 127))
def rightN (n v : List Int) : Bool := tokenB n && (v.all okV && decide (trL (trR v) = v))
def rightB (x : S27) : Bool := rightN (bytesOf x.f0) (bytesOf x.f1)
theorem field_value_l {l : List Int} (hl : Bs l) (hn : l.length < 90000) : ∀ (t p : List Int) (k : Nat), l = p ++ t → t.length < k → field_value.l0 k (strOfNums l) (l.length : Int) (p.length : Int) = some (t.all okV) := by
  intro t
  induction t with
  | nil =>
    intro p k e hk
    obtain ⟨k, rfl⟩ : ∃ m, k = m + 1 := ⟨k - 1, by simp at hk; omega⟩
    simp only [field_value.l0]
    rw [if_neg (by rw [e]; simp)]
    rfl
  | cons x t ih =>
    intro p k e hk
    obtain ⟨k, rfl⟩ : ∃ m, k = m + 1 := ⟨k - 1, by simp at hk; omega⟩
    have hlen : l.length = p.length + (t.length + 1) := by rw [e]; simp
    have hc : rd l (p.length : Int) = x := by rw [e]; exact rd_app p t x
    have hi := ih (p ++ [x]) k (by simpa using e) (by simp at hk; omega)
    rw [show (((p ++ [x]).length : Nat) : Int) = (p.length : Int) + 1 by simp] at hi
    simp only [field_value.l0]
    rw [nums_size, if_pos (by omega), if_pos (by omega), if_pos (by omega), nums_bt hl, hc, w64 (by omega) (by omega), hi, List.all_cons, okV]
    by_cases h1 : x < 32
    · rw [if_pos h1]
      by_cases h2 : x = 9
      · rw [if_pos h2, if_neg (by omega), decide_eq_true (by omega), Bool.true_and]
      · rw [if_neg h2, decide_eq_false (by omega), Bool.false_and]
    · rw [if_neg h1]
      by_cases h2 : x = 127
      · rw [if_pos h2, decide_eq_false (by omega), Bool.false_and]
      · rw [if_neg h2, decide_eq_true (by omega), Bool.true_and]
theorem right_if {n v : List Int} (hv : Bs v) : (if tokenB n = true then (if v.all okV = true then some ((strOfNums (trL (trR v))).toList == (strOfNums v).toList) else some false) else some false) = some (rightN n v) := by
  unfold rightN
  rw [nums_beq (trL_Bs (trR_Bs hv)) hv]
  cases tokenB n
  · rfl
  · cases v.all okV
    · rfl
    · rfl
theorem field_Right_eq {k : Nat} {n v : List Int} (hn : Bs n) (hv : Bs v) (ln : n.length < 90000) (lv : v.length < 90000) (hk : 100000 < k) : field_Right.f k (strOfNums n) (strOfNums v) = some (rightN n v) := by
  unfold field_Right.f field_value.f
  rw [text_Token_eq hn ln hk, Option.bind_some, nums_size]
  have := field_value_l hv lv v [] k rfl (by omega)
  rw [show ((([] : List Int).length : Nat) : Int) = 0 from rfl] at this
  rw [this, Option.bind_some, text_Trim_eq (by omega), Option.bind_some]
  exact right_if hv
theorem field_RightB {k : Nat} {x : S27} (h0 : x.f0.size < 90000) (h1 : x.f1.size < 90000) (hk : 100000 < k) : field_Right.f k x.f0 x.f1 = some (rightB x) := by
  have := field_Right_eq (k := k) (Bs.of x.f0) (Bs.of x.f1) (by rw [← size_list]; exact h0) (by rw [← size_list]; exact h1) hk
  rwa [nums_bytesOf, nums_bytesOf] at this
/-! ### fields' lines -/
def putL : List S27 → List Int → ByteArray × Int
  | [], acc => if acc.length + 2 > 2000 then ((⟨#[]⟩ : ByteArray), 4) else (strOfNums (acc ++ [13, 10]), 0)
  | x :: t, acc => if rightB x = true then putL t (acc ++ field_Put.line x) else ((⟨#[]⟩ : ByteArray), 1)
theorem line_len (x : S27) : (field_Put.line x).length = x.f0.size + x.f1.size + 4 := by
  unfold field_Put.line
  simp only [List.length_append, List.length_cons, List.length_nil, ← size_list]
  omega
theorem line_Bs (x : S27) : Bs (field_Put.line x) := ((((Bs.of _).app (Bs.dec rfl)).app (Bs.of _)).app (Bs.dec rfl))
theorem field_Put_l {k : Nat} (hk : 100000 < k) : ∀ (l : List S27) (acc : List Int), (∀ x ∈ l, x.f0.size ≤ 300 ∧ x.f1.size ≤ 2100) → acc.length + 3000 * l.length ≤ 1000000 → field_Put.l0 k l acc = some (putL l acc)
  | [], acc, _, h => by
    rw [field_Put.l0, putL, if_pos (by simp at h; omega)]
    split <;> rfl
  | x :: t, acc, hx, h => by
    have hh := hx x (List.mem_cons_self ..)
    simp only [List.length_cons] at h
    rw [field_Put.l0, putL, field_RightB (by omega) (by omega) hk, Option.bind_some, if_pos (c := acc.length + x.f0.size + x.f1.size + 4 ≤ 1000000000) (by omega)]
    split
    · exact field_Put_l hk t _ (fun y hy => hx y (List.mem_cons_of_mem _ hy)) (by rw [List.length_append, line_len]; omega)
    · rfl
theorem field_Put_eq {k : Nat} (hk : 100000 < k) {l : List S27} (hx : ∀ x ∈ l, x.f0.size ≤ 300 ∧ x.f1.size ≤ 2100) (h : l.length ≤ 30) : field_Put.f k l = some (putL l []) := field_Put_l hk l [] hx (by simp; omega)
/-! ### fields, got -/
def getL (short : Int) : Nat → List Int → List S27 → Nat → List S27 × Int × Int
  | 0, _, _, _ => ([], 0, short)
  | n + 1, l, acc, p => match cutW l with
    | none => ([], 0, short)
    | some (a, b) => if a = [] then (acc, ((p + 2 : Nat) : Int), 0) else match cutL 58 a with
      | none => ([], 0, 12)
      | some (x, y) => if rightN x (trL (trR y)) = true then getL short n b (acc ++ [⟨strOfNums x, strOfNums (trL (trR y))⟩]) (p + a.length + 2) else ([], 0, 12)
theorem field_line_eq {l : List Int} (hl : Bs l) (hn : l.length ≤ 10000) {r : Nat} (hr : r ≤ 2000) : field_line.f (strOfNums l) (r : Int) = some (match cutW (l.take r) with | none => (strOfNums [], if l.length ≥ r then 4 else 11) | some (a, _) => (strOfNums a, 0)) := by
  unfold field_line.f
  have hm : mn ((strOfNums l).size : Int) (r : Int) = ((min l.length r : Nat) : Int) := by
    rw [nums_size]
    unfold mn
    split <;> omega
  have ht : (l.take (min l.length r)).drop 0 = l.take r := by
    rw [List.drop_zero]
    by_cases h : l.length ≤ r
    · rw [Nat.min_eq_left h, List.take_length, List.take_of_length_le h]
    · rw [Nat.min_eq_right (by omega)]
  rw [hm, nums_size, if_pos (by omega), if_pos (by omega), nums_ext, Int.toNat_natCast, ht, strings_IndexW (hl.take _) (by simp; omega), Option.bind_some]
  cases hq : cutW (l.take r) with
  | none =>
    simp only
    rw [if_neg (by decide)]
    by_cases h : l.length ≥ r
    · rw [if_pos (by omega), if_pos h]; rfl
    · rw [if_neg (by omega), if_neg h]; rfl
  | some q =>
    obtain ⟨a, b⟩ := q
    have e := cutW_some hq
    have el := congrArg List.length e
    rw [List.length_append, List.length_cons, List.length_cons, List.length_take] at el
    have ha : (l.take a.length).drop 0 = a := by
      rw [List.drop_zero]
      have : (l.take r).take a.length = a := by rw [e, List.take_left' rfl]
      rwa [List.take_take, Nat.min_eq_left (by omega)] at this
    simp only
    rw [if_pos (by omega), if_pos (by omega), if_pos (by omega), nums_ext, Int.toNat_natCast, ha]
theorem field_parse_eq {k : Nat} (hk : 100000 < k) {l : List Int} (hl : Bs l) (hn : l.length ≤ 10000) :
    field_parse.f k (strOfNums l) = some (match cutL 58 l with | none => (strOfNums l, strOfNums [], false) | some (x, y) => (strOfNums x, strOfNums (trL (trR y)), rightN x (trL (trR y)))) := by
  unfold field_parse.f
  rw [text_Cut_eq (by decide) hl (by omega), Option.bind_some]
  cases hq : cutL 58 l with
  | none =>
    simp only
    rw [text_Trim_eq (by simp), Option.bind_some, if_neg (by decide)]
    rfl
  | some q =>
    obtain ⟨x, y⟩ := q
    have e := (cutL_some hq).1
    have el := congrArg List.length e
    rw [List.length_append, List.length_cons] at el
    have hy : Bs y := (Bs.right (a := x) (e ▸ hl)).tail
    have l1 := trL_len (trR y)
    have l2 := trR_len y
    simp only
    rw [text_Trim_eq (by omega), Option.bind_some, if_pos trivial, field_Right_eq (Bs.left (b := 58 :: y) (e ▸ hl)) (trL_Bs (trR_Bs hy)) (by omega) (by omega) hk, Option.bind_some]
theorem field_Get_l {s : List Int} (hs : Bs s) (hn : s.length ≤ 10000) : ∀ (n : Nat) (l p : List Int) (acc : List S27) (k : Nat), s.take 2000 = p ++ l → l.length < n → acc.length ≤ p.length → n + 100010 < k →
    field_Get.l0 k (strOfNums s) acc (p.length : Int) = some (getL (if s.length ≥ 2000 then 4 else 11) n l acc p.length) := by
  intro n
  induction n with
  | zero => intro l p acc k _ h; omega
  | succ n ih =>
    intro l p acc k e hln ha hk
    obtain ⟨k, rfl⟩ : ∃ m, k = m + 1 := ⟨k - 1, by omega⟩
    have elen := congrArg List.length e
    rw [List.length_take, List.length_append] at elen
    have hd : (s.take s.length).drop p.length = s.drop p.length := by rw [List.take_length]
    have ht : (s.drop p.length).take (2000 - p.length) = l := by
      have := congrArg (List.drop p.length) e
      rw [List.drop_left' rfl, List.drop_take] at this
      exact this
    simp only [field_Get.l0]
    rw [nums_size, if_pos (by omega), if_pos (by omega), nums_ext, Int.toNat_natCast, hd, w64 (by omega) (by omega), show (2000 - (p.length : Int)) = ((2000 - p.length : Nat) : Int) by omega, field_line_eq (hs.drop _) (by rw [List.length_drop]; omega) (by omega), Option.bind_some, ht, getL]
    cases hq : cutW l with
    | none =>
      simp only
      by_cases h : s.length ≥ 2000
      · rw [if_pos (c := (s.drop p.length).length ≥ 2000 - p.length) (by rw [List.length_drop]; omega), if_pos h, if_neg (by decide)]
      · rw [if_neg (c := (s.drop p.length).length ≥ 2000 - p.length) (by rw [List.length_drop]; omega), if_neg h, if_neg (by decide)]
    | some q =>
      obtain ⟨a, b⟩ := q
      have ea := cutW_some hq
      have hl : Bs l := (Bs.right (a := p) (e ▸ hs.take 2000))
      have hba : Bs a := Bs.left (b := 13 :: 10 :: b) (ea ▸ hl)
      have el := congrArg List.length ea
      rw [List.length_append, List.length_cons, List.length_cons] at el
      simp only
      rw [if_pos trivial, nums_ifl hba, nums_size, w64 (x := (a.length : Int) + 2) (by omega) (by omega), w64 (by omega) (by omega)]
      by_cases h0 : a = []
      · rw [if_pos (by rw [h0]; rfl), if_pos h0, h0]
        rfl
      · rw [if_neg (by simpa using h0), if_neg h0, field_parse_eq (by omega) hba (by omega), Option.bind_some]
        cases hc : cutL 58 a with
        | none =>
          simp only
          rw [if_neg (by decide)]
        | some q =>
          obtain ⟨x, y⟩ := q
          simp only
          by_cases hr : rightN x (trL (trR y)) = true
          · rw [if_pos hr, if_pos hr, if_pos (by omega)]
            have := ih b (p ++ a ++ [13, 10]) (acc ++ [⟨strOfNums x, strOfNums (trL (trR y))⟩]) k (by rw [e, ea]; simp) (by omega) (by simp; omega) (by omega)
            rw [show (p ++ a ++ ([13, 10] : List Int)).length = p.length + a.length + 2 by simp only [List.length_append, List.length_cons, List.length_nil]] at this
            rw [← this]
            congr 1
          · rw [if_neg hr, if_neg hr]
theorem field_Get_eq {k : Nat} {s : List Int} (hs : Bs s) (hn : s.length ≤ 10000) (hk : 200000 < k) : field_Get.f k (strOfNums s) = some (getL (if s.length ≥ 2000 then 4 else 11) 2001 (s.take 2000) [] 0) :=
  field_Get_l hs hn 2001 (s.take 2000) [] [] k rfl (by rw [List.length_take]; omega) (Nat.le_refl _) (by omega)
theorem same_l {L : List S27} (hn : L.length ≤ 100000) : ∀ (t p : List S27) (k : Nat), L = p ++ t → t.length < k → newsreelref25_Same.l0 k L L (p.length : Int) = some true := by
  intro t
  induction t with
  | nil =>
    intro p k e hk
    obtain ⟨k, rfl⟩ : ∃ m, k = m + 1 := ⟨k - 1, by simp at hk; omega⟩
    simp only [newsreelref25_Same.l0]
    rw [if_neg (by rw [e]; simp)]
  | cons x t ih =>
    intro p k e hk
    obtain ⟨k, rfl⟩ : ∃ m, k = m + 1 := ⟨k - 1, by simp at hk; omega⟩
    have hlen : L.length = p.length + (t.length + 1) := by rw [e]; simp
    have hi := ih (p ++ [x]) k (by simpa using e) (by simp at hk; omega)
    rw [show (((p ++ [x]).length : Nat) : Int) = (p.length : Int) + 1 by simp] at hi
    simp only [newsreelref25_Same.l0]
    rw [if_pos (by omega), if_pos (by omega), if_pos (by omega), w64 (by omega) (by omega), hi, if_neg (by simp)]
theorem same_eq {k : Nat} {L : List S27} (hn : L.length ≤ 100000) (hk : 100000 < k) : newsreelref25_Same.f k L L = some true := by
  unfold newsreelref25_Same.f
  rw [if_pos rfl]
  exact same_l hn L [] k rfl (by omega)
theorem getL_len (short : Int) : ∀ (n : Nat) (l : List Int) (acc : List S27) (p : Nat), (getL short n l acc p).1.length ≤ acc.length + l.length ∧ 0 ≤ (getL short n l acc p).2.1 ∧ (getL short n l acc p).2.1 ≤ ((p + l.length : Nat) : Int) := by
  intro n
  induction n with
  | zero => intro l acc p; simp only [getL]; exact ⟨by simp, by omega, by omega⟩
  | succ n ih =>
    intro l acc p
    rw [getL]
    cases hq : cutW l with
    | none => exact ⟨by simp, by simp, by simp only; omega⟩
    | some q =>
      obtain ⟨a, b⟩ := q
      have el := congrArg List.length (cutW_some hq)
      rw [List.length_append, List.length_cons, List.length_cons] at el
      simp only
      by_cases h0 : a = []
      · rw [if_pos h0]
        exact ⟨by simp only; omega, by simp only; omega, by simp only; omega⟩
      · rw [if_neg h0]
        cases hc : cutL 58 a with
        | none => exact ⟨by simp, by simp, by simp only; omega⟩
        | some q =>
          obtain ⟨x, y⟩ := q
          simp only
          by_cases hr : rightN x (trL (trR y)) = true
          · rw [if_pos hr]
            obtain ⟨h1, h2, h3⟩ := ih b (acc ++ [⟨strOfNums x, strOfNums (trL (trR y))⟩]) (p + a.length + 2)
            rw [List.length_append, List.length_singleton] at h1
            exact ⟨by omega, h2, by omega⟩
          · rw [if_neg hr]
            exact ⟨by simp, by simp, by simp only; omega⟩
theorem few_eq2 {k : Nat} {l : List S27} (hk : 100 ≤ k) : ∃ b, newsreelref25_Few.f k l = some b ∧ (b = true → l.length ≤ 30 ∧ ∀ x ∈ l, x.f0.size ≤ 300 ∧ x.f1.size ≤ 2100) := by
  unfold newsreelref25_Few.f
  by_cases h : (l.length : Int) > 30
  · rw [if_pos h]; exact ⟨false, rfl, fun h => by cases h⟩
  · rw [if_neg h]
    obtain ⟨b, h1, h2⟩ := few_l (L := l) (by omega) l [] k rfl (by omega)
    exact ⟨b, h1, fun hb => ⟨by omega, h2 hb⟩⟩

theorem awake_eq {k : Nat} (hk : 400 ≤ k) : newsreellaw25_awake.f k = some true := at_rounds newsreellaw25_awake.mono hk (by kernel_rfl)
theorem cutW_app2 : ∀ {a : List Int} (b : List Int), (∀ x ∈ a, x ≠ 13) → cutW (a ++ 13 :: 10 :: b) = some (a, b)
  | [], b, _ => by simp [cutW]
  | [x], b, h => by
    show cutW (x :: 13 :: 10 :: b) = _
    rw [cutW, if_neg (fun c => h x (by simp) c.1), show cutW (13 :: 10 :: b) = some ([], b) by simp [cutW]]
    rfl
  | x :: y :: a, b, h => by
    show cutW (x :: y :: (a ++ 13 :: 10 :: b)) = _
    rw [cutW, if_neg (fun c => h x (by simp) c.1), show y :: (a ++ 13 :: 10 :: b) = (y :: a) ++ 13 :: 10 :: b from rfl, cutW_app2 b (fun z hz => h z (by simp only [List.mem_cons] at hz ⊢; exact Or.inr hz))]
    rfl
theorem sign_no : ∀ c : Fin 256, signB (c.val : Int) = true → (c.val : Int) ≠ 13 ∧ (c.val : Int) ≠ 58 := by decide +kernel
theorem tok_no {n : List Int} (hb : Bs n) (h : tokenB n = true) : ∀ x ∈ n, x ≠ 13 ∧ x ≠ 58 := by
  intro x hx
  unfold tokenB at h
  rw [Bool.and_eq_true, List.all_eq_true] at h
  obtain ⟨m, rfl⟩ := Int.eq_ofNat_of_zero_le (hb x hx).1
  have := (hb _ hx).2
  exact sign_no ⟨m, by omega⟩ (h.2 _ hx)
theorem blank32 : blankB 32 = true := by decide
theorem tr_sp {v : List Int} (h : trL (trR v) = v) : trL (trR (32 :: v)) = v := by
  rw [trR_cons]
  by_cases h0 : trR v = []
  · rw [if_pos h0, if_pos blank32]
    rw [h0] at h
    exact h
  · rw [if_neg h0, trL_cons, if_pos blank32]
    exact h
theorem line_app (x : S27) (r : List Int) : field_Put.line x ++ r = (bytesOf x.f0 ++ 58 :: 32 :: bytesOf x.f1) ++ 13 :: 10 :: r := by simp [field_Put.line]
theorem getL_line {short : Int} {n : Nat} {x : S27} (h : rightB x = true) (r : List Int) (acc : List S27) (p : Nat) : getL short (n + 1) (field_Put.line x ++ r) acc p = getL short n r (acc ++ [x]) (p + (field_Put.line x).length) := by
  have hh := h
  unfold rightB rightN at hh
  rw [Bool.and_eq_true, Bool.and_eq_true, decide_eq_true_eq, List.all_eq_true] at hh
  obtain ⟨h1, h2, h3⟩ := hh
  have t1 := tok_no (Bs.of x.f0) h1
  have v1 : ∀ z ∈ bytesOf x.f1, z ≠ 13 := fun z hz e => by
    have := h2 z hz
    rw [e] at this
    exact absurd this (by decide)
  have hno : ∀ z ∈ bytesOf x.f0 ++ 58 :: 32 :: bytesOf x.f1, z ≠ 13 := by
    intro z hz
    rcases List.mem_append.mp hz with hz | hz
    · exact (t1 z hz).1
    · rcases List.mem_cons.mp hz with rfl | hz
      · decide
      · rcases List.mem_cons.mp hz with rfl | hz
        · decide
        · exact v1 z hz
  rw [line_app, getL, cutW_app2 r hno]
  simp only
  rw [if_neg (by simp), cutL_app _ (fun z hz => (t1 z hz).2)]
  simp only
  rw [tr_sp h3, if_pos (show rightN (bytesOf x.f0) (bytesOf x.f1) = true from h), nums_bytesOf, nums_bytesOf, line_len]
  congr 1
  simp only [List.length_append, List.length_cons, ← size_list]
  omega
theorem put_get : ∀ (l : List S27) (a : List Int) (s : ByteArray), putL l a = (s, 0) →
    ∃ r, Bs r ∧ s = strOfNums (a ++ r) ∧ a.length + r.length ≤ 2000 ∧ ∀ (short : Int) (acc : List S27) (p n : Nat) (more : List Int), l.length < n → p = a.length → getL short n (r ++ more) acc p = (acc ++ l, ((a.length + r.length : Nat) : Int), 0)
  | [], a, s, h => by
    rw [putL] at h
    by_cases hl : a.length + 2 > 2000
    · rw [if_pos hl] at h
      exact absurd (congrArg Prod.snd h) (show ¬ _ = (0 : Int) by decide)
    · rw [if_neg hl] at h
      refine ⟨[13, 10], Bs.dec rfl, (congrArg Prod.fst h).symm, by simp only [List.length_cons, List.length_nil]; omega, fun short acc p n more hn hp => ?_⟩
      obtain ⟨n, rfl⟩ : ∃ m, n = m + 1 := ⟨n - 1, by omega⟩
      rw [getL, show [13, 10] ++ more = 13 :: 10 :: more from rfl, show cutW (13 :: 10 :: more) = some ([], more) by simp [cutW]]
      simp only
      rw [if_pos trivial, List.append_nil, hp]
      rfl
  | x :: t, a, s, h => by
    rw [putL] at h
    by_cases hr : rightB x = true
    · rw [if_pos hr] at h
      obtain ⟨r, hb, hs, hle, hg⟩ := put_get t _ s h
      rw [List.length_append] at hle hg
      refine ⟨field_Put.line x ++ r, (line_Bs x).app hb, by rw [hs, List.append_assoc], by rw [List.length_append]; omega, fun short acc p n more hn hp => ?_⟩
      simp only [List.length_cons] at hn
      obtain ⟨n, rfl⟩ : ∃ m, n = m + 1 := ⟨n - 1, by omega⟩
      rw [List.append_assoc, getL_line hr, hg short _ _ n more (by omega) (by rw [hp]), List.length_append, List.append_assoc, Nat.add_assoc]
      rfl
    · rw [if_neg hr] at h
      exact absurd (congrArg Prod.snd h) (show ¬ _ = (0 : Int) by decide)
theorem putL_err : ∀ (l : List S27) (a : List Int), (putL l a).2 ≠ 0 → (putL l a).1 = (⟨#[]⟩ : ByteArray)
  | [], a, h => by
    rw [putL] at h ⊢
    split
    · rfl
    · rename_i hc
      rw [if_neg hc] at h
      exact absurd rfl h
  | x :: t, a, h => by
    rw [putL] at h ⊢
    split
    · rename_i hc
      rw [if_pos hc] at h
      exact putL_err t _ h
    · rfl
theorem getL_stay {s2 : Int} : ∀ (n m : Nat) (l r : List Int) (acc : List S27) (p : Nat), l.length < n → (l ++ r).length < m → (getL 11 n l acc p).2.2 = 11 ∨ getL s2 m (l ++ r) acc p = getL 11 n l acc p := by
  intro n
  induction n with
  | zero => intro m l r acc p h; omega
  | succ n ih =>
    intro m l r acc p h hm
    obtain ⟨m, rfl⟩ : ∃ q, m = q + 1 := ⟨m - 1, by omega⟩
    rw [getL, getL]
    cases hq : cutW l with
    | none => exact Or.inl rfl
    | some q =>
      obtain ⟨a, b⟩ := q
      have el := congrArg List.length (cutW_some hq)
      rw [List.length_append, List.length_cons, List.length_cons] at el
      rw [List.length_append] at hm
      rw [cutW_app hq]
      simp only
      by_cases h0 : a = []
      · rw [if_pos h0, if_pos h0]; exact Or.inr rfl
      · rw [if_neg h0, if_neg h0]
        cases hc : cutL 58 a with
        | none => exact Or.inr rfl
        | some q =>
          obtain ⟨x, y⟩ := q
          simp only
          by_cases hr : rightN x (trL (trR y)) = true
          · rw [if_pos hr, if_pos hr]
            exact ih m b r _ _ (by omega) (by rw [List.length_append]; omega)
          · rw [if_neg hr, if_neg hr]; exact Or.inr rfl
theorem j1_eq {k : Nat} (hk : 300000 < k) {s m : List Int} (hs : Bs s) (hm : Bs m) (ls : s.length ≤ 2200) (lm : m.length ≤ 300) : newsreellaw25_FieldBack.j1 k (strOfNums s) (strOfNums m) false = some true := by
  obtain ⟨k, rfl⟩ : ∃ q, k = q + 1 := ⟨k - 1, by omega⟩
  have g1 := field_Get_eq (k := k) hs (by omega) (by omega)
  have g2 := field_Get_eq (k := k) (hs.app hm) (by rw [List.length_append]; omega) (by omega)
  have hle := getL_len (if s.length ≥ 2000 then 4 else 11) 2001 (s.take 2000) [] 0
  have hst : (getL (if s.length ≥ 2000 then 4 else 11) 2001 (s.take 2000) [] 0).2.2 = 11 ∨ getL (if (s ++ m).length ≥ 2000 then 4 else 11) 2001 ((s ++ m).take 2000) [] 0 = getL (if s.length ≥ 2000 then 4 else 11) 2001 (s.take 2000) [] 0 := by
    by_cases h : s.length ≥ 2000
    · right
      rw [List.take_append, show 2000 - s.length = 0 by omega, List.take_zero, List.append_nil, if_pos h, if_pos (by rw [List.length_append]; omega)]
    · rw [if_neg h, List.take_append]
      exact getL_stay 2001 2001 (s.take 2000) _ [] 0 (by rw [List.length_take]; omega) (by rw [← List.take_append, List.length_take]; omega)
  have hsz : (s.take 2000).length ≤ s.length := by rw [List.length_take]; omega
  generalize getL (if s.length ≥ 2000 then 4 else 11) 2001 (s.take 2000) [] 0 = u at g1 hle hst
  generalize getL (if (s ++ m).length ≥ 2000 then 4 else 11) 2001 ((s ++ m).take 2000) [] 0 = v at g2 hst
  obtain ⟨u1, u2, u3⟩ := u
  simp only at hle hst
  have hu : u1.length ≤ 100000 := by have := hle.1; simp at this; omega
  have hu2 : u2 ≤ (s.length : Int) := by have := hle.2.2; omega
  simp only [newsreellaw25_FieldBack.j1]
  rw [if_neg (by decide), g1, Option.bind_some, nums_size, nums_size, if_pos (by omega), ← nums_app, g2, Option.bind_some, awake_eq (by omega)]
  simp only
  rcases hst with h | h
  · rw [h]
    simp [hu2]
  · subst h
    simp only
    rw [same_eq hu (by omega)]
    simp [hu2]
theorem FieldBack : newsreellaw25_FieldBack.Pure := by
  intro l s m hl hs hm
  refine ⟨400001, ?_⟩
  unfold newsreellaw25_FieldBack.f
  obtain ⟨b, hb, hfew⟩ := few_eq2 (k := 400001) (l := l) (by decide)
  rw [hb, Option.bind_some, show (400001 : Nat) = 400000 + 1 from rfl]
  simp only [newsreellaw25_FieldBack.j0]
  rw [awake_eq (by decide)]
  by_cases h : b = true
  · rw [if_pos h]
    obtain ⟨hn, hx⟩ := hfew h
    by_cases h1 : (s.size : Int) > 2200
    · rw [if_pos h1]; rfl
    · rw [if_neg h1]
      by_cases h2 : (m.size : Int) > 300
      · rw [decide_eq_true h2]; rfl
      · rw [decide_eq_false h2, if_neg (by decide), field_Put_eq (by decide) hx hn, Option.bind_some]
        rw [size_list] at h1 h2
        have hj := j1_eq (k := 400000) (by decide) (Bs.of s) (Bs.of m) (by omega) (by omega)
        rw [nums_bytesOf, nums_bytesOf] at hj
        have hm2 : (bytesOf m).length ≤ 300 := by omega
        by_cases he : (putL l []).2 = 0
        · obtain ⟨r, hb, hs, hle, hg⟩ := put_get l [] (putL l []).1 (by rw [← he])
          rw [List.nil_append] at hs
          rw [List.length_nil, Nat.zero_add] at hle
          have hG := field_Get_eq (k := 400000) (hb.app (Bs.of m)) (by rw [List.length_append]; omega) (by decide)
          rw [List.take_append, List.take_of_length_le hle, hg _ [] 0 2001 _ (by omega) rfl, nums_app, nums_bytesOf] at hG
          rw [hs, he, nums_size, size_list m, if_pos (by omega), hG, Option.bind_some, if_pos rfl]
          simp only
          rw [if_pos trivial, List.length_nil, Nat.zero_add, if_pos rfl, List.nil_append, same_eq (by omega) (by decide), Option.bind_some]
          exact hj
        · have h0 := putL_err l [] he
          have hG := field_Get_eq (k := 400000) (Bs.of m) (by omega) (by decide)
          rw [nums_bytesOf] at hG
          rw [h0, show (⟨#[]⟩ : ByteArray) ++ m = m from ByteArray.empty_append, hG, Option.bind_some, size_list m, if_pos (by show 0 + _ ≤ _; omega), if_neg he]
          exact hj
  · rw [if_neg h]
    rfl
end Go.Proofs.YthoeajocamafkaaDoor.Pure
