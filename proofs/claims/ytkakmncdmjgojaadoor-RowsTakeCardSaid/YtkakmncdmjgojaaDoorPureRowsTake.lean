/- The law RowsTake is true for every input: of which feed, and of which episode, any row is, or that it is of none, is what the reference says. No condition beyond the row's own. -/
import Derived.Test.YtkakmncdmjgojaaDoorPRowsTakex13
import Derived.Test.YtkakmncdmjgojaaDoorStr
set_option linter.unusedVariables false
set_option linter.unusedSimpArgs false
namespace Go.Proofs.YtkakmncdmjgojaaDoor.Pure
open Go Go.RowKit Go.Proofs.YtkakmncdmjgojaaDoor.PRowsTake Go.Proofs.YtkakmncdmjgojaaDoorW.PrintWords Go.Proofs.YtkakmncdmjgojaaDoorW.PrintLast Go.Proofs.YtkakmncdmjgojaaDoorW.PrintMore Go.Proofs.YtkakmncdmjgojaaDoor.Kit Go.Proofs.YtkakmncdmjgojaaDoor.Str

/-! ### answers of chained questions -/
/-- x answers whether P. -/
def Ans (x : Option Bool) (P : Prop) : Prop := ∃ b, x = some b ∧ (b = true ↔ P)
theorem Ans.dec (P : Prop) [Decidable P] : Ans (some (decide P)) P := ⟨_, rfl, decide_eq_true_iff⟩
theorem Ans.iff {x : Option Bool} {P Q : Prop} (h : Ans x P) (e : P ↔ Q) : Ans x Q := by
  obtain ⟨b, h1, h2⟩ := h
  exact ⟨b, h1, h2.trans e⟩
theorem Ans.and {x y e : Option Bool} {P Q : Prop} (hx : Ans x P) (hy : Ans y Q) (he : e = some false) : Ans (x.bind fun t => if t = true then y else e) (P ∧ Q) := by
  obtain ⟨b, rfl, h⟩ := hx
  obtain ⟨c, rfl, h'⟩ := hy
  subst he
  cases b with
  | true => exact ⟨c, rfl, fun hc => ⟨h.mp rfl, h'.mp hc⟩, fun hc => h'.mpr hc.2⟩
  | false => exact ⟨false, rfl, fun hc => (by cases hc), fun hc => (by have := h.mpr hc.1; cases this)⟩
theorem Ans.last {x : Option Bool} {P : Prop} (hx : Ans x P) : Ans (x.bind fun t => some t) P := by
  obtain ⟨b, rfl, h⟩ := hx
  exact ⟨b, rfl, h⟩
theorem Ans.ite {c Q : Prop} [Decidable c] {y e : Option Bool} (hy : c → Ans y Q) (he : e = some false) : Ans (if c then y else e) (c ∧ Q) := by
  by_cases h : c
  · obtain ⟨b, rfl, h'⟩ := hy h
    rw [if_pos h]
    exact ⟨b, rfl, fun hc => ⟨h, h'.mp hc⟩, fun hc => h'.mpr hc.2⟩
  · rw [if_neg h, he]
    exact ⟨false, rfl, fun hc => (by cases hc), fun hc => absurd hc.1 h⟩
theorem Ans.unless {c Q : Prop} [Decidable c] {y e : Option Bool} (he : e = some false) (hy : ¬c → Ans y Q) : Ans (if c then e else y) (¬c ∧ Q) := by
  by_cases h : c
  · rw [if_pos h, he]
    exact ⟨false, rfl, fun hc => (by cases hc), fun hc => absurd h hc.1⟩
  · obtain ⟨b, rfl, h'⟩ := hy h
    rw [if_neg h]
    exact ⟨b, rfl, fun hc => ⟨h, h'.mp hc⟩, fun hc => h'.mpr hc.2⟩
theorem Ans.not {x : Option Bool} {P Q : Prop} {F : Bool → Option Bool} (hx : Ans x P) (he : F true = some false) (hy : Ans (F false) Q) : Ans (x.bind fun t => F (!t)) (P ∧ Q) := by
  obtain ⟨b, rfl, h⟩ := hx
  obtain ⟨c, hy, h'⟩ := hy
  cases b with
  | true => exact ⟨c, hy, fun hc => ⟨h.mp rfl, h'.mp hc⟩, fun hc => h'.mpr hc.2⟩
  | false => exact ⟨false, he, fun hc => (by cases hc), fun hc => (by have := h.mpr hc.1; cases this)⟩
theorem Ans.ofdec {c Q : Prop} [Decidable c] {F : Bool → Option Bool} (he : F true = some false) (hy : Ans (F false) Q) : Ans (F (decide c)) (¬c ∧ Q) := by
  obtain ⟨b, hy, h'⟩ := hy
  by_cases h : c
  · rw [decide_eq_true h]
    exact ⟨false, he, fun hc => (by cases hc), fun hc => absurd h hc.1⟩
  · rw [decide_eq_false h]
    exact ⟨b, hy, fun hc => ⟨h, h'.mp hc⟩, fun hc => h'.mpr hc.2⟩
theorem Ans.same {x y : Option Bool} {P : Prop} (hx : Ans x P) (hy : Ans y P) : ∃ b, x = some b ∧ y = some b ∧ (b = true ↔ P) := by
  obtain ⟨b, h1, h2⟩ := hx
  obtain ⟨c, h3, h4⟩ := hy
  have : b = c := Bool.eq_iff_iff.mpr (h2.trans h4.symm)
  exact ⟨b, h1, by rw [this]; exact h3, h2⟩
theorem Ans.beq {α : Type} [BEq α] [LawfulBEq α] (a b : α) : Ans (some (a == b)) (a = b) := ⟨_, rfl, beq_iff_eq⟩

theorem dw_nil {α : Type} (p : α → Bool) : ∀ l : List α, l.dropWhile p = [] ↔ ∀ x ∈ l, p x = true
  | [] => by simp
  | x :: l => by
    rw [List.dropWhile_cons]
    by_cases h : p x = true
    · rw [if_pos h, dw_nil p l]
      constructor
      · intro hl y hy
        rcases List.mem_cons.mp hy with rfl | hy
        · exact h
        · exact hl y hy
      · intro hl y hy
        exact hl y (List.mem_cons_of_mem _ hy)
    · rw [if_neg h]
      constructor
      · intro e; cases e
      · intro hl; exact absurd (hl x (List.mem_cons_self ..)) h
theorem dw_head {α : Type} (p : α → Bool) : ∀ (l : List α) {x : α} {r : List α}, l.dropWhile p = x :: r → p x = false
  | [], _, _, h => by cases h
  | y :: l, x, r, h => by
    rw [List.dropWhile_cons] at h
    by_cases hy : p y = true
    · rw [if_pos hy] at h; exact dw_head p l h
    · rw [if_neg hy] at h
      cases h
      simpa using hy
theorem trimS_nil (l cs : List UInt8) : Lib.trimS l cs = [] ↔ ∀ x ∈ l, cs.contains x = true := by
  unfold Lib.trimS Lib.trimLeftS Lib.trimRightS
  constructor
  · intro h
    rw [dw_nil] at h
    cases hn : l.reverse.dropWhile (cs.contains ·) with
    | nil =>
      rw [dw_nil] at hn
      intro x hx
      exact hn x (List.mem_reverse.mpr hx)
    | cons x r =>
      have h1 := dw_head _ _ hn
      have h2 := h x (List.mem_reverse.mpr (by rw [hn]; exact List.mem_cons_self ..))
      rw [h2] at h1
      cases h1
  · intro h
    have : l.reverse.dropWhile (cs.contains ·) = [] := (dw_nil _ _).mpr fun x hx => h x (List.mem_reverse.mp hx)
    rw [this]
    rfl
theorem trim_all {l : List Int} (hl : Bs l) (cs : List UInt8) : ∀ x ∈ l, cs.contains x.toNat.toUInt8 = (cs.map fun b => (b.toNat : Int)).contains x := by
  intro x hx
  have := hl x hx
  rw [Bool.eq_iff_iff, List.contains_iff_mem, List.contains_iff_mem, List.mem_map]
  constructor
  · intro h
    exact ⟨_, h, by simp only [Nat.toUInt8, UInt8.toNat_ofNat']; omega⟩
  · rintro ⟨b, hb, e⟩
    have : x.toNat.toUInt8 = b := by rw [← e]; simp
    rwa [this]

/-! ### a sum's digits -/
def hexC (c : Int) : Bool := decide (48 ≤ c ∧ c ≤ 57 ∨ 97 ≤ c ∧ c ≤ 102)
def hexWd : List UInt8 := [48, 49, 50, 51, 52, 53, 54, 55, 56, 57, 97, 98, 99, 100, 101, 102]
theorem hexWd_all : ∀ c : Fin 256, (hexWd.map fun b => (b.toNat : Int)).contains (c.val : Int) = hexC (c.val : Int) := by decide +kernel
theorem hexWd_eq {c : Int} (h : 0 ≤ c ∧ c < 256) : (hexWd.map fun b => (b.toNat : Int)).contains c = hexC c := by
  obtain ⟨m, rfl⟩ := Int.eq_ofNat_of_zero_le h.1
  exact hexWd_all ⟨m, by omega⟩
theorem trimHex_eq {h : List Int} (hb : Bs h) (lh : h.length ≤ 140737488351232) : ∃ r : ByteArray, strings_Trim.f (strOfNums h) ⟨hexWd.toArray⟩ = some r ∧ (r.toList == ([] : List UInt8)) = h.all hexC := by
  unfold strings_Trim.f
  rw [if_pos ⟨by rw [nums_size]; omega, by decide, by decide⟩]
  refine ⟨_, rfl, ?_⟩
  rw [toList_data, nums_data, Bool.eq_iff_iff]
  simp only [List.all_eq_true]
  rw [beq_iff_eq, trimS_nil]
  constructor
  · intro hh x hx
    have := hh _ (List.mem_map_of_mem hx)
    rwa [trim_all hb _ x hx, hexWd_eq (hb x hx)] at this
  · intro hh y hy
    obtain ⟨x, hx, rfl⟩ := List.mem_map.mp hy
    show hexWd.contains x.toNat.toUInt8 = true
    rw [trim_all hb _ x hx, hexWd_eq (hb x hx)]
    exact hh x hx

/-! ### rows: which feeds and episodes are right, for the program -/
theorem in_ans (a lo hi : Int) : Ans (rows_in.f a lo hi) (lo ≤ a ∧ a ≤ hi) := by
  unfold rows_in.f
  exact Ans.ite (fun _ => Ans.dec _) rfl
theorem id_ans (a : Int) : Ans (rows_id.f a) (1 ≤ a ∧ a ≤ 1048576) := Ans.last (in_ans _ _ _)
theorem times_ans (a : Int) : Ans (rows_times.f a) (0 ≤ a ∧ a ≤ 1048576) := Ans.last (in_ans _ _ _)
theorem is_ans (a : Int) : Ans (num_Is.f a) (0 ≤ a ∧ a ≤ 1099511627776) := by
  unfold num_Is.f
  exact Ans.ite (fun _ => Ans.dec _) rfl
theorem few_ans (a : ByteArray) : Ans (rows_few.f a) ((a.size : Int) ≤ 200) := Ans.dec _
theorem empty_iff (a : ByteArray) : a.toList = ([] : List UInt8) ↔ a.size = 0 := by
  rw [toList_data, size_list]
  unfold bytesOf
  rw [List.length_map, List.length_eq_zero_iff]
theorem some_ans (a : ByteArray) : Ans (rows_some.f a) (1 ≤ (a.size : Int) ∧ (a.size : Int) ≤ 200) := by
  unfold rows_some.f
  refine Ans.iff (Ans.unless rfl (fun _ => Ans.last (few_ans a))) ?_
  rw [empty_iff]
  omega
def FeedP (a0 : Int) (a1 a2 : ByteArray) (a3 a4 : Int) : Prop := (1 ≤ a0 ∧ a0 ≤ 1048576) ∧ (1 ≤ (a1.size : Int) ∧ (a1.size : Int) ≤ 200) ∧ (a2.size : Int) ≤ 200 ∧ (0 ≤ a3 ∧ a3 ≤ 1099511627776) ∧ (0 ≤ a4 ∧ a4 ≤ 1048576)
theorem feed_ans (a0 : Int) (a1 a2 : ByteArray) (a3 a4 : Int) : Ans (rows_FeedRight.f a0 a1 a2 a3 a4) (FeedP a0 a1 a2 a3 a4) :=
  Ans.and (id_ans _) (Ans.and (some_ans _) (Ans.and (few_ans _) (Ans.and (is_ans _) (Ans.last (times_ans _)) rfl) rfl) rfl) rfl
def SumP (a : ByteArray) : Prop := a.size = 64 ∧ (bytesOf a).all hexC = true
theorem sum_ans (a : ByteArray) (h : a.size ≤ 140737488351232) : Ans (rows_sum.f a) (SumP a) := by
  unfold rows_sum.f
  have e := trimHex_eq (Bs.of a) (by rw [← size_list]; omega)
  obtain ⟨r, h1, h2⟩ := e
  rw [nums_bytesOf] at h1
  rw [show (⟨#[48, 49, 50, 51, 52, 53, 54, 55, 56, 57, 97, 98, 99, 100, 101, 102]⟩ : ByteArray) = ⟨hexWd.toArray⟩ from rfl, h1, Option.bind_some]
  have hA : Ans ((some r).bind fun t146 => (some (t146.toList == ([] : List UInt8)))) ((bytesOf a).all hexC = true) := ⟨_, rfl, by rw [h2]⟩
  rw [Option.bind_some] at hA
  refine Ans.iff (Ans.ite (c := (a.size : Int) = 64) (fun _ => hA) rfl) ?_
  unfold SumP
  exact ⟨fun h => ⟨by have := h.1; omega, h.2⟩, fun h => ⟨by have := h.1; omega, h.2⟩⟩
def StP (a7 a8 a18 : Int) (a19 : ByteArray) : Prop := (1 ≤ a7 ∧ a7 ≤ 5) ∧ (a7 = 4 ∧ (1 ≤ a8 ∧ a8 ≤ 4) ∧ a19.size = 0 ∧ a18 = 0 ∨ a7 = 3 ∧ a8 = 0 ∧ SumP a19 ∨ a7 ≠ 4 ∧ a7 ≠ 3 ∧ a8 = 0 ∧ a19.size = 0 ∧ a18 = 0)
theorem state_j0 (k : Nat) (a0 a1 : Int) (a2 a3 a4 : ByteArray) (a5 a6 a7 a8 : Int) (a9 : Bool) (a10 a11 a12 : Int) (a13 : ByteArray) (a14 a15 : Int) (a16 : ByteArray) (a17 a18 : Int) (a19 : ByteArray) (h : a19.size ≤ 140737488351232) (h7 : 1 ≤ a7) (h75 : a7 ≤ 5) :
    Ans (rows_state.j0 (k + 1) false a0 a1 a2 a3 a4 a5 a6 a7 a8 a9 a10 a11 a12 a13 a14 a15 a16 a17 a18 a19) (StP a7 a8 a18 a19) := by
  simp only [rows_state.j0]
  rw [if_neg (by decide)]
  have bare : Ans (if a19.toList = ([] : List UInt8) then (some (a18 == 0)) else (some false)) (a19.toList = ([] : List UInt8) ∧ a18 = 0) := Ans.ite (fun _ => Ans.beq _ _) rfl
  by_cases c4 : a7 = 4
  · rw [if_pos c4]
    obtain ⟨b, e, hb⟩ := in_ans a8 1 4
    rw [e, Option.bind_some, if_neg (by omega)]
    obtain ⟨d, e2, hd⟩ := bare
    cases b with
    | true =>
      rw [if_pos rfl]
      refine ⟨d, e2, hd.trans ?_⟩
      have := hb.mp rfl
      unfold StP
      rw [empty_iff]
      omega
    | false =>
      rw [if_neg (by decide)]
      refine ⟨false, rfl, fun hc => (by cases hc), fun hc => ?_⟩
      have : ¬ (1 ≤ a8 ∧ a8 ≤ 4) := fun hh => by have := hb.mpr hh; cases this
      unfold StP at hc
      omega
  · rw [if_neg c4]
    by_cases c3 : a7 = 3
    · rw [if_pos c3]
      refine Ans.iff (Ans.ite (fun _ => Ans.last (sum_ans a19 h)) rfl) ?_
      unfold StP
      constructor
      · intro hh; exact ⟨⟨h7, h75⟩, Or.inr (Or.inl ⟨c3, hh.1, hh.2⟩)⟩
      · rintro ⟨_, hh | hh | hh⟩
        · omega
        · exact hh.2
        · omega
    · rw [if_neg c3]
      refine Ans.iff (Ans.ite (fun _ => bare) rfl) ?_
      unfold StP
      rw [empty_iff]
      omega
theorem state_ans (k : Nat) (a0 a1 : Int) (a2 a3 a4 : ByteArray) (a5 a6 a7 a8 : Int) (a9 : Bool) (a10 a11 a12 : Int) (a13 : ByteArray) (a14 a15 : Int) (a16 : ByteArray) (a17 a18 : Int) (a19 : ByteArray) (h : a19.size ≤ 140737488351232) :
    Ans (rows_state.f (k + 1) a0 a1 a2 a3 a4 a5 a6 a7 a8 a9 a10 a11 a12 a13 a14 a15 a16 a17 a18 a19) (StP a7 a8 a18 a19) := by
  unfold rows_state.f
  have bad : rows_state.j0 (k + 1) true a0 a1 a2 a3 a4 a5 a6 a7 a8 a9 a10 a11 a12 a13 a14 a15 a16 a17 a18 a19 = some false := by
    simp only [rows_state.j0]
    rw [if_pos trivial]
  by_cases c : a7 < 1
  · rw [if_pos c, bad]
    refine ⟨false, rfl, fun hc => (by cases hc), fun hc => ?_⟩
    unfold StP at hc
    omega
  · rw [if_neg c]
    by_cases d : a7 > 5
    · rw [decide_eq_true d, bad]
      refine ⟨false, rfl, fun hc => (by cases hc), fun hc => ?_⟩
      unfold StP at hc
      omega
    · rw [decide_eq_false d]
      exact state_j0 k a0 a1 a2 a3 a4 a5 a6 a7 a8 a9 a10 a11 a12 a13 a14 a15 a16 a17 a18 a19 h (by omega) (by omega)
def FetchP (a11 a12 : Int) (a13 : ByteArray) (a14 a15 : Int) (a16 : ByteArray) (a17 a18 : Int) : Prop := (0 ≤ a11 ∧ a11 ≤ 1048576) ∧ (0 ≤ a12 ∧ a12 ≤ 1099511627776) ∧ (a13.size : Int) ≤ 200 ∧ (0 ≤ a14 ∧ a14 ≤ 3) ∧ (0 ≤ a15 ∧ a15 ≤ 1048576) ∧ (a16.size : Int) ≤ 200 ∧ (-1 ≤ a17 ∧ a17 ≤ 1099511627776) ∧ (0 ≤ a18 ∧ a18 ≤ 65536)
theorem fetch_ans (a0 a1 : Int) (a2 a3 a4 : ByteArray) (a5 a6 a7 a8 : Int) (a9 : Bool) (a10 a11 a12 : Int) (a13 : ByteArray) (a14 a15 : Int) (a16 : ByteArray) (a17 a18 : Int) (a19 : ByteArray) :
    Ans (rows_fetch.f a0 a1 a2 a3 a4 a5 a6 a7 a8 a9 a10 a11 a12 a13 a14 a15 a16 a17 a18 a19) (FetchP a11 a12 a13 a14 a15 a16 a17 a18) :=
  Ans.and (times_ans _) (Ans.and (is_ans _) (Ans.and (few_ans _) (Ans.and (in_ans _ _ _) (Ans.and (times_ans _) (Ans.and (few_ans _) (Ans.and (in_ans _ _ _) (Ans.last (in_ans _ _ _)) rfl) rfl) rfl) rfl) rfl) rfl) rfl
def EpP (a0 a1 : Int) (a2 a3 a4 : ByteArray) (a5 a6 a7 a8 a10 a11 a12 : Int) (a13 : ByteArray) (a14 a15 : Int) (a16 : ByteArray) (a17 a18 : Int) (a19 : ByteArray) : Prop :=
  (1 ≤ a0 ∧ a0 ≤ 1048576) ∧ (1 ≤ a1 ∧ a1 ≤ 1048576) ∧ (1 ≤ (a2.size : Int) ∧ (a2.size : Int) ≤ 200) ∧ (1 ≤ (a3.size : Int) ∧ (a3.size : Int) ≤ 200) ∧ (a4.size : Int) ≤ 200 ∧ (-1099511627776 ≤ a5 ∧ a5 ≤ 1099511627776) ∧ (-1 ≤ a6 ∧ a6 ≤ 1099511627776) ∧ (0 ≤ a10 ∧ a10 ≤ 1099511627776) ∧ FetchP a11 a12 a13 a14 a15 a16 a17 a18 ∧ StP a7 a8 a18 a19
theorem ep_ans (k : Nat) (a0 a1 : Int) (a2 a3 a4 : ByteArray) (a5 a6 a7 a8 : Int) (a9 : Bool) (a10 a11 a12 : Int) (a13 : ByteArray) (a14 a15 : Int) (a16 : ByteArray) (a17 a18 : Int) (a19 : ByteArray) (h : a19.size ≤ 140737488351232) :
    Ans (rows_EpRight.f (k + 2) a0 a1 a2 a3 a4 a5 a6 a7 a8 a9 a10 a11 a12 a13 a14 a15 a16 a17 a18 a19) (EpP a0 a1 a2 a3 a4 a5 a6 a7 a8 a10 a11 a12 a13 a14 a15 a16 a17 a18 a19) := by
  have bad : rows_EpRight.j0 (k + 2) true a0 a1 a2 a3 a4 a5 a6 a7 a8 a9 a10 a11 a12 a13 a14 a15 a16 a17 a18 a19 = some false := by
    simp only [rows_EpRight.j0]
    rw [if_pos trivial]
  have good : Ans (rows_EpRight.j0 (k + 2) false a0 a1 a2 a3 a4 a5 a6 a7 a8 a9 a10 a11 a12 a13 a14 a15 a16 a17 a18 a19) ((-1099511627776 ≤ a5 ∧ a5 ≤ 1099511627776) ∧ (-1 ≤ a6 ∧ a6 ≤ 1099511627776) ∧ (0 ≤ a10 ∧ a10 ≤ 1099511627776) ∧ FetchP a11 a12 a13 a14 a15 a16 a17 a18 ∧ StP a7 a8 a18 a19) := by
    simp only [rows_EpRight.j0]
    rw [if_neg (by decide)]
    exact Ans.and (in_ans _ _ _) (Ans.and (in_ans _ _ _) (Ans.and (is_ans _) (Ans.and (fetch_ans a0 a1 a2 a3 a4 a5 a6 a7 a8 a9 a10 a11 a12 a13 a14 a15 a16 a17 a18 a19) (Ans.last (state_ans k a0 a1 a2 a3 a4 a5 a6 a7 a8 a9 a10 a11 a12 a13 a14 a15 a16 a17 a18 a19 h)) rfl) rfl) rfl) rfl
  unfold rows_EpRight.f
  exact Ans.and (id_ans _) (Ans.and (id_ans _) (Ans.and (some_ans _) (Ans.and (some_ans _) (Ans.not (F := fun b => rows_EpRight.j0 (k + 2) b a0 a1 a2 a3 a4 a5 a6 a7 a8 a9 a10 a11 a12 a13 a14 a15 a16 a17 a18 a19) (few_ans _) bad good) bad) bad) bad) bad

/-! ### rows: which feeds and episodes are right, for the reference -/
theorem count_ans (a lo : Int) : Ans (newsreelref14_Count.f a lo) (lo ≤ a ∧ a ≤ 1048576) := by
  unfold newsreelref14_Count.f
  exact Ans.ite (fun _ => Ans.dec _) rfl
theorem long_ans (a : ByteArray) (lo : Int) : Ans (newsreelref14_Long.f a lo) (lo ≤ (a.size : Int) ∧ (a.size : Int) ≤ 200) := by
  unfold newsreelref14_Long.f
  exact Ans.ite (fun _ => Ans.dec _) rfl
theorem size_ans (a : Int) : Ans (newsreelref01_Size.f a) (0 ≤ a ∧ a ≤ 1099511627776) := by
  unfold newsreelref01_Size.f
  exact Ans.ite (fun _ => Ans.dec _) rfl
theorem reffeed_ans (a0 : Int) (a1 a2 : ByteArray) (a3 a4 : Int) : Ans (newsreelref14_FeedRight.f a0 a1 a2 a3 a4) (FeedP a0 a1 a2 a3 a4) := by
  refine Ans.iff (Ans.and (count_ans _ _) (Ans.and (long_ans _ _) (Ans.and (long_ans _ _) (Ans.and (size_ans _) (Ans.last (count_ans _ _)) rfl) rfl) rfl) rfl) ?_
  unfold FeedP
  omega
theorem digits_l {a : List Int} (ha : Bs a) (hn : a.length ≤ 10000) : ∀ (t p : List Int) (k : Nat), a = p ++ t → t.length < k → newsreelref14_digits.l0 k (strOfNums a) (p.length : Int) = some (t.all hexC && decide (a.length = 64)) := by
  intro t
  induction t with
  | nil =>
    intro p k e hk
    obtain ⟨k, rfl⟩ : ∃ m, k = m + 1 := ⟨k - 1, by omega⟩
    have hlen : a.length = p.length := by rw [e, List.append_nil]
    simp only [newsreelref14_digits.l0]
    rw [nums_size, if_neg (by omega)]
    congr 1
    rw [List.all_nil, Bool.true_and]
    by_cases h : a.length = 64
    · rw [decide_eq_true h]; exact beq_iff_eq.mpr (by omega)
    · rw [decide_eq_false h]; exact beq_eq_false_iff_ne.mpr (by omega)
  | cons x t ih =>
    intro p k e hk
    obtain ⟨k, rfl⟩ : ∃ m, k = m + 1 := ⟨k - 1, by omega⟩
    have hlen : a.length = p.length + (t.length + 1) := by rw [e]; simp
    have hc : rd a (p.length : Int) = x := by rw [e]; exact rd_app p t x
    have hi := ih (p ++ [x]) k (by simpa using e) (by simp at hk; omega)
    rw [show (((p ++ [x]).length : Nat) : Int) = (p.length : Int) + 1 by simp] at hi
    simp only [newsreelref14_digits.l0]
    rw [nums_size, if_pos (by omega), if_pos (by omega), nums_bt ha, hc, w64 (by omega) (by omega), hi, List.all_cons, hexC]
    by_cases h1 : x ≥ 48
    · rw [if_pos h1]
      by_cases h2 : x ≤ 57
      · rw [if_pos h2, decide_eq_true (show 48 ≤ x ∧ x ≤ 57 ∨ 97 ≤ x ∧ x ≤ 102 by omega), Bool.true_and]
      · rw [if_neg h2]
        by_cases h3 : x ≥ 97
        · rw [if_pos h3]
          by_cases h4 : x ≤ 102
          · rw [if_pos h4, decide_eq_true (show 48 ≤ x ∧ x ≤ 57 ∨ 97 ≤ x ∧ x ≤ 102 by omega), Bool.true_and]
          · rw [if_neg h4, decide_eq_false (show ¬ (48 ≤ x ∧ x ≤ 57 ∨ 97 ≤ x ∧ x ≤ 102) by omega), Bool.false_and, Bool.false_and]
        · rw [if_neg h3, decide_eq_false (show ¬ (48 ≤ x ∧ x ≤ 57 ∨ 97 ≤ x ∧ x ≤ 102) by omega), Bool.false_and, Bool.false_and]
    · rw [if_neg h1]
      by_cases h3 : x ≥ 97
      · omega
      · rw [if_neg h3, decide_eq_false (show ¬ (48 ≤ x ∧ x ≤ 57 ∨ 97 ≤ x ∧ x ≤ 102) by omega), Bool.false_and, Bool.false_and]
theorem digits_ans {k : Nat} (hk : 20000 < k) (a : ByteArray) (h : a.size ≤ 10000) : Ans (newsreelref14_digits.f k a) (SumP a) := by
  have := digits_l (Bs.of a) (by rw [← size_list]; exact h) (bytesOf a) [] k rfl (by rw [← size_list]; omega)
  rw [nums_bytesOf] at this
  unfold newsreelref14_digits.f
  refine ⟨_, this, ?_⟩
  unfold SumP
  rw [Bool.and_eq_true, decide_eq_true_eq, size_list]
  exact And.comm
theorem ref_j2 {k : Nat} (hk : 20000 < k) (a0 a1 : Int) (a2 a3 a4 : ByteArray) (a5 a6 a7 a8 : Int) (a9 : Bool) (a10 a11 a12 : Int) (a13 : ByteArray) (a14 a15 : Int) (a16 : ByteArray) (a17 a18 : Int) (a19 : ByteArray) (h : a19.size ≤ 10000) :
    Ans (newsreelref14_EpRight.j2 (k + 1) false a0 a1 a2 a3 a4 a5 a6 a7 a8 a9 a10 a11 a12 a13 a14 a15 a16 a17 a18 a19) (StP a7 a8 a18 a19) := by
  simp only [newsreelref14_EpRight.j2]
  rw [if_neg (by decide)]
  have bare : Ans (if a19.toList = ([] : List UInt8) then (some (a18 == 0)) else (some false)) (a19.size = 0 ∧ a18 = 0) := Ans.iff (Ans.ite (fun _ => Ans.beq _ _) rfl) (by rw [empty_iff])
  by_cases c4 : a7 = 4
  · rw [if_pos c4]
    refine Ans.iff (Ans.ite (fun _ => Ans.ite (fun _ => bare) rfl) rfl) ?_
    unfold StP
    omega
  · rw [if_neg c4]
    by_cases c3 : a7 = 3
    · rw [if_pos c3]
      refine Ans.iff (Ans.ite (fun _ => Ans.last (digits_ans hk a19 h)) rfl) ?_
      unfold StP
      constructor
      · intro hh; exact ⟨by omega, Or.inr (Or.inl ⟨c3, hh.1, hh.2⟩)⟩
      · rintro ⟨_, hh | hh | hh⟩
        · omega
        · exact hh.2
        · omega
    · rw [if_neg c3]
      refine Ans.iff (Ans.ite (fun _ => Ans.ite (fun _ => Ans.ite (fun _ => bare) rfl) rfl) rfl) ?_
      unfold StP
      omega
theorem refep_ans {k : Nat} (hk : 20000 < k) (a0 a1 : Int) (a2 a3 a4 : ByteArray) (a5 a6 a7 a8 : Int) (a9 : Bool) (a10 a11 a12 : Int) (a13 : ByteArray) (a14 a15 : Int) (a16 : ByteArray) (a17 a18 : Int) (a19 : ByteArray) (h : a19.size ≤ 10000) :
    Ans (newsreelref14_EpRight.f (k + 3) a0 a1 a2 a3 a4 a5 a6 a7 a8 a9 a10 a11 a12 a13 a14 a15 a16 a17 a18 a19) (EpP a0 a1 a2 a3 a4 a5 a6 a7 a8 a10 a11 a12 a13 a14 a15 a16 a17 a18 a19) := by
  have bad2 : newsreelref14_EpRight.j2 (k + 1) true a0 a1 a2 a3 a4 a5 a6 a7 a8 a9 a10 a11 a12 a13 a14 a15 a16 a17 a18 a19 = some false := by
    simp only [newsreelref14_EpRight.j2]
    rw [if_pos trivial]
  have bad1 : newsreelref14_EpRight.j1 (k + 2) true a0 a1 a2 a3 a4 a5 a6 a7 a8 a9 a10 a11 a12 a13 a14 a15 a16 a17 a18 a19 = some false := by
    simp only [newsreelref14_EpRight.j1]
    rw [if_pos trivial]
  have bad0 : newsreelref14_EpRight.j0 (k + 3) true a0 a1 a2 a3 a4 a5 a6 a7 a8 a9 a10 a11 a12 a13 a14 a15 a16 a17 a18 a19 = some false := by
    simp only [newsreelref14_EpRight.j0]
    rw [if_pos trivial]
  have good1 : Ans (newsreelref14_EpRight.j1 (k + 2) false a0 a1 a2 a3 a4 a5 a6 a7 a8 a9 a10 a11 a12 a13 a14 a15 a16 a17 a18 a19) ((0 ≤ a10 ∧ a10 ≤ 1099511627776) ∧ (0 ≤ a12 ∧ a12 ≤ 1099511627776) ∧ (0 ≤ a11 ∧ a11 ≤ 1048576) ∧ (0 ≤ a15 ∧ a15 ≤ 1048576) ∧ ¬ a14 < 0 ∧ ¬ a14 > 3 ∧ ¬ a18 < 0 ∧ ¬ a18 > 65536 ∧ StP a7 a8 a18 a19) := by
    simp only [newsreelref14_EpRight.j1]
    rw [if_neg (by decide)]
    exact Ans.and (size_ans _) (Ans.and (size_ans _) (Ans.and (count_ans _ _) (Ans.and (count_ans _ _) (Ans.unless bad2 (fun _ => Ans.unless bad2 (fun _ => Ans.unless bad2 (fun _ => Ans.ofdec (F := fun b => newsreelref14_EpRight.j2 (k + 1) b a0 a1 a2 a3 a4 a5 a6 a7 a8 a9 a10 a11 a12 a13 a14 a15 a16 a17 a18 a19) bad2 (ref_j2 hk a0 a1 a2 a3 a4 a5 a6 a7 a8 a9 a10 a11 a12 a13 a14 a15 a16 a17 a18 a19 h))))) bad2) bad2) bad2) bad2
  have good0 : Ans (newsreelref14_EpRight.j0 (k + 3) false a0 a1 a2 a3 a4 a5 a6 a7 a8 a9 a10 a11 a12 a13 a14 a15 a16 a17 a18 a19) (¬ a5 < (-1099511627776) ∧ ¬ a5 > 1099511627776 ∧ ¬ a6 < (-1) ∧ ¬ a6 > 1099511627776 ∧ ¬ a17 < (-1) ∧ ¬ a17 > 1099511627776 ∧ ((0 ≤ a10 ∧ a10 ≤ 1099511627776) ∧ (0 ≤ a12 ∧ a12 ≤ 1099511627776) ∧ (0 ≤ a11 ∧ a11 ≤ 1048576) ∧ (0 ≤ a15 ∧ a15 ≤ 1048576) ∧ ¬ a14 < 0 ∧ ¬ a14 > 3 ∧ ¬ a18 < 0 ∧ ¬ a18 > 65536 ∧ StP a7 a8 a18 a19)) := by
    simp only [newsreelref14_EpRight.j0]
    rw [if_neg (by decide)]
    exact Ans.unless bad1 (fun _ => Ans.unless bad1 (fun _ => Ans.unless bad1 (fun _ => Ans.unless bad1 (fun _ => Ans.unless bad1 (fun _ => Ans.ofdec (F := fun b => newsreelref14_EpRight.j1 (k + 2) b a0 a1 a2 a3 a4 a5 a6 a7 a8 a9 a10 a11 a12 a13 a14 a15 a16 a17 a18 a19) bad1 good1)))))
  unfold newsreelref14_EpRight.f
  refine Ans.iff (Ans.and (count_ans _ _) (Ans.and (count_ans _ _) (Ans.and (long_ans _ _) (Ans.and (long_ans _ _) (Ans.and (long_ans _ _) (Ans.and (long_ans _ _) (Ans.not (F := fun b => newsreelref14_EpRight.j0 (k + 3) b a0 a1 a2 a3 a4 a5 a6 a7 a8 a9 a10 a11 a12 a13 a14 a15 a16 a17 a18 a19) (long_ans _ _) bad0 good0) bad0) bad0) bad0) bad0) bad0) bad0) ?_
  unfold EpP FetchP
  generalize StP a7 a8 a18 a19 = st
  constructor
  · rintro ⟨h1, h2, h3, h4, h5, h6, h7, h8, h9, h10, h11, h12, h13, h14, h15, h16, h17, h18, h19, h20, h21, h22⟩
    exact ⟨h1, h2, h3, h4, h5.2, ⟨by omega, by omega⟩, ⟨by omega, by omega⟩, h14, ⟨h16, h15, h6.2, ⟨by omega, by omega⟩, h17, h7.2, ⟨by omega, by omega⟩, ⟨by omega, by omega⟩⟩, h22⟩
  · rintro ⟨h1, h2, h3, h4, h5, h6, h7, h8, ⟨f1, f2, f3, f4, f5, f6, f7, f8⟩, hs⟩
    exact ⟨h1, h2, h3, h4, ⟨by omega, h5⟩, ⟨by omega, f3⟩, ⟨by omega, f6⟩, by omega, by omega, by omega, by omega, by omega, by omega, h8, f2, f1, f5, by omega, by omega, by omega, by omega, hs⟩

/-! ### a reader of values -/
abbrev VAL := S45
abbrev E0 : ByteArray := ⟨#[]⟩
theorem e0_nil : (E0.toList == ([] : List UInt8)) = true := by rw [toList_data]; rfl
theorem eye_num_put (n : Int) (t : List VAL) (bad : Bool) : rows_eye.num ((⟨1, n, E0⟩ : VAL) :: t) bad = (n, t, bad) := by
  simp only [rows_eye.num, rows_eye.next]
  rw [if_pos trivial]
  simp only
  rw [e0_nil]
  simp
theorem eye_text_put (s : ByteArray) (t : List VAL) (bad : Bool) : rows_eye.text ((⟨2, 0, s⟩ : VAL) :: t) bad = (s, t, bad) := by
  simp only [rows_eye.text, rows_eye.next]
  rw [if_pos trivial]
  simp
theorem eye_small_put {n : Int} (h : 0 ≤ n ∧ n ≤ 1048576) (t : List VAL) (bad : Bool) : rows_eye.small ((⟨1, n, E0⟩ : VAL) :: t) bad = (n, t, bad) := by
  simp only [rows_eye.small]
  rw [eye_num_put, if_pos h]
theorem eye_word_put (s : ByteArray) (t : List VAL) (bad : Bool) : rows_eye.word ((⟨2, 0, s⟩ : VAL) :: t) bad s = (t, bad) := by
  simp only [rows_eye.word]
  rw [eye_text_put]
  simp
theorem eye_next_inv {l l' : List VAL} {bad : Bool} {kind : Int} {v : VAL} (h : rows_eye.next l bad kind = (v, l', false)) : bad = false ∧ l = v :: l' ∧ v.f0 = kind := by
  cases l with
  | nil =>
    rw [rows_eye.next] at h
    exact absurd (congrArg (fun z => z.2.2) h) (by simp)
  | cons x t =>
    rw [rows_eye.next] at h
    by_cases c : x.f0 = kind
    · rw [if_pos c] at h
      simp only [Prod.mk.injEq] at h
      obtain ⟨rfl, rfl, rfl⟩ := h
      exact ⟨rfl, rfl, c⟩
    · rw [if_neg c] at h
      have := congrArg (fun z => z.2.2) h
      cases this
theorem eye_num_inv {l l' : List VAL} {bad : Bool} {r : Int} (h : rows_eye.num l bad = (r, l', false)) : bad = false ∧ l = (⟨1, r, E0⟩ : VAL) :: l' := by
  unfold rows_eye.num at h
  obtain ⟨v, l1, b1, hq⟩ : ∃ v l1 b1, rows_eye.next l bad 1 = (v, l1, b1) := ⟨_, _, _, rfl⟩
  simp only [hq, Prod.mk.injEq, Bool.or_eq_false_iff] at h
  obtain ⟨rfl, rfl, rfl, h2⟩ := h
  obtain ⟨h3, h4, h5⟩ := eye_next_inv hq
  refine ⟨h3, ?_⟩
  rw [h4]
  have h6 : v.f2 = E0 := by
    have : v.f2.toList = ([] : List UInt8) := by simpa using h2
    apply ext_data
    rw [← toList_data, this]
  cases v
  simp only at h5 h6 ⊢
  rw [h5, h6]
theorem eye_text_inv {l l' : List VAL} {bad : Bool} {r : ByteArray} (h : rows_eye.text l bad = (r, l', false)) : bad = false ∧ l = (⟨2, 0, r⟩ : VAL) :: l' := by
  unfold rows_eye.text at h
  obtain ⟨v, l1, b1, hq⟩ : ∃ v l1 b1, rows_eye.next l bad 2 = (v, l1, b1) := ⟨_, _, _, rfl⟩
  simp only [hq, Prod.mk.injEq, Bool.or_eq_false_iff] at h
  obtain ⟨rfl, rfl, rfl, h2⟩ := h
  obtain ⟨h3, h4, h5⟩ := eye_next_inv hq
  refine ⟨h3, ?_⟩
  rw [h4]
  have h6 : v.f1 = 0 := by simpa using h2
  cases v
  simp only at h5 h6 ⊢
  rw [h5, h6]
theorem eye_small_inv {l l' : List VAL} {bad : Bool} {r : Int} (h : rows_eye.small l bad = (r, l', false)) : (0 ≤ r ∧ r ≤ 1048576) ∧ bad = false ∧ l = (⟨1, r, E0⟩ : VAL) :: l' := by
  unfold rows_eye.small at h
  obtain ⟨v, l1, b1, hq⟩ : ∃ v l1 b1, rows_eye.num l bad = (v, l1, b1) := ⟨_, _, _, rfl⟩
  simp only [hq] at h
  by_cases c : 0 ≤ v ∧ v ≤ 1048576
  · rw [if_pos c] at h
    simp only [Prod.mk.injEq] at h
    obtain ⟨rfl, rfl, rfl⟩ := h
    exact ⟨c, eye_num_inv hq⟩
  · rw [if_neg c] at h
    have := congrArg (fun z => z.2.2) h
    cases this
theorem eye_word_inv {l l' : List VAL} {bad : Bool} {s : ByteArray} (h : rows_eye.word l bad s = (l', false)) : bad = false ∧ l = (⟨2, 0, s⟩ : VAL) :: l' := by
  unfold rows_eye.word at h
  obtain ⟨v, l1, b1, hq⟩ : ∃ v l1 b1, rows_eye.text l bad = (v, l1, b1) := ⟨_, _, _, rfl⟩
  simp only [hq, Prod.mk.injEq, Bool.or_eq_false_iff] at h
  obtain ⟨rfl, h2, rfl⟩ := h
  obtain ⟨h3, h4⟩ := eye_text_inv hq
  have h5 : v = s := by
    have : v.toList = s.toList := by simpa using h2
    apply ext_data
    rw [← toList_data, ← toList_data, this]
  rw [← h5]
  exact ⟨h3, h4⟩
theorem eye_done_inv {l : List VAL} {bad : Bool} (h : rows_eye.done l bad = true) : bad = false ∧ l = [] := by
  unfold rows_eye.done at h
  rw [Bool.and_eq_true] at h
  exact ⟨by simpa using h.1, List.isEmpty_iff.mp h.2⟩
def feedL (a0 : Int) (a1 a2 : ByteArray) (a3 a4 : Int) : List VAL := [⟨2, 0, ⟨#[102, 101, 101, 100]⟩⟩, ⟨1, a0, E0⟩, ⟨2, 0, a1⟩, ⟨2, 0, a2⟩, ⟨1, a3, E0⟩, ⟨1, a4, E0⟩]
theorem takefeed_put {a0 : Int} {a1 a2 : ByteArray} {a3 a4 : Int} (h : FeedP a0 a1 a2 a3 a4) (hr : rows_FeedRight.f a0 a1 a2 a3 a4 = some true) : rows_TakeFeed.f (feedL a0 a1 a2 a3 a4) = some (a0, a1, a2, a3, a4, 0) := by
  have s0 : 0 ≤ a0 ∧ a0 ≤ 1048576 := ⟨by have := h.1.1; omega, h.1.2⟩
  unfold rows_TakeFeed.f feedL
  simp only [eye_word_put, eye_small_put s0, eye_text_put, eye_num_put, eye_small_put h.2.2.2.2]
  rw [if_pos (by rfl), hr, Option.bind_some, if_pos rfl]
theorem takefeed_any (l : List VAL) : (∃ a0 a1 a2 a3 a4, rows_TakeFeed.f l = some (a0, a1, a2, a3, a4, 0) ∧ l = feedL a0 a1 a2 a3 a4 ∧ rows_FeedRight.f a0 a1 a2 a3 a4 = some true) ∨ rows_TakeFeed.f l = some (0, E0, E0, 0, 0, 12) := by
  unfold rows_TakeFeed.f
  obtain ⟨l1, b1, h1⟩ : ∃ l' b, rows_eye.word l false (⟨#[102, 101, 101, 100]⟩ : ByteArray) = (l', b) := ⟨_, _, rfl⟩
  simp only [h1]
  obtain ⟨x1, l2, b2, h2⟩ : ∃ x l b, rows_eye.small l1 b1 = (x, l, b) := ⟨_, _, _, rfl⟩
  simp only [h2]
  obtain ⟨x2, l3, b3, h3⟩ : ∃ x l b, rows_eye.text l2 b2 = (x, l, b) := ⟨_, _, _, rfl⟩
  simp only [h3]
  obtain ⟨x3, l4, b4, h4⟩ : ∃ x l b, rows_eye.text l3 b3 = (x, l, b) := ⟨_, _, _, rfl⟩
  simp only [h4]
  obtain ⟨x4, l5, b5, h5⟩ : ∃ x l b, rows_eye.num l4 b4 = (x, l, b) := ⟨_, _, _, rfl⟩
  simp only [h5]
  obtain ⟨x5, l6, b6, h6⟩ : ∃ x l b, rows_eye.small l5 b5 = (x, l, b) := ⟨_, _, _, rfl⟩
  simp only [h6]
  by_cases hd : rows_eye.done l6 b6 = true
  · rw [if_pos hd]
    obtain ⟨b, hb, _⟩ := feed_ans x1 x2 x3 x4 x5
    rw [hb, Option.bind_some]
    cases b with
    | false => exact Or.inr rfl
    | true =>
      obtain ⟨rfl, rfl⟩ := eye_done_inv hd
      obtain ⟨_, rfl, rfl⟩ := eye_small_inv h6
      obtain ⟨rfl, rfl⟩ := eye_num_inv h5
      obtain ⟨rfl, rfl⟩ := eye_text_inv h4
      obtain ⟨rfl, rfl⟩ := eye_text_inv h3
      obtain ⟨_, rfl, rfl⟩ := eye_small_inv h2
      obtain ⟨_, rfl⟩ := eye_word_inv h1
      exact Or.inl ⟨x1, x2, x3, x4, x5, rfl, rfl, hb⟩
  · rw [if_neg hd]
    exact Or.inr rfl

/-! ### rows of episodes: put and taken -/
def epL (a0 : Int) (a1 : Int) (a2 : ByteArray) (a3 : ByteArray) (a4 : ByteArray) (a5 : Int) (a6 : Int) (a7 : Int) (a8 : Int) (a9 : Bool) (a10 : Int) (a11 : Int) (a12 : Int) (a13 : ByteArray) (a14 : Int) (a15 : Int) (a16 : ByteArray) (a17 : Int) (a18 : Int) (a19 : ByteArray) (q : Int) : List VAL := [⟨2, 0, ⟨#[101, 112]⟩⟩, ⟨1, a0, E0⟩, ⟨1, a1, E0⟩, ⟨2, 0, a2⟩, ⟨2, 0, a3⟩, ⟨2, 0, a4⟩, ⟨1, a5, E0⟩, ⟨1, a6, E0⟩, ⟨1, a7, E0⟩, ⟨1, a8, E0⟩, ⟨1, q, E0⟩, ⟨1, a10, E0⟩, ⟨1, a11, E0⟩, ⟨1, a12, E0⟩, ⟨2, 0, a13⟩, ⟨1, a14, E0⟩, ⟨1, a15, E0⟩, ⟨2, 0, a16⟩, ⟨1, a17, E0⟩, ⟨1, a18, E0⟩, ⟨2, 0, a19⟩]
set_option maxHeartbeats 4000000 in
theorem takeep_put {k : Nat} {a0 : Int} {a1 : Int} {a2 : ByteArray} {a3 : ByteArray} {a4 : ByteArray} {a5 : Int} {a6 : Int} {a7 : Int} {a8 : Int} {a9 : Bool} {a10 : Int} {a11 : Int} {a12 : Int} {a13 : ByteArray} {a14 : Int} {a15 : Int} {a16 : ByteArray} {a17 : Int} {a18 : Int} {a19 : ByteArray} {q : Int} (hq : q = if a9 = true then 1 else 0) (h : EpP a0 a1 a2 a3 a4 a5 a6 a7 a8 a10 a11 a12 a13 a14 a15 a16 a17 a18 a19) (hr : rows_EpRight.f k a0 a1 a2 a3 a4 a5 a6 a7 a8 a9 a10 a11 a12 a13 a14 a15 a16 a17 a18 a19 = some true) : rows_TakeEp.f k (epL a0 a1 a2 a3 a4 a5 a6 a7 a8 a9 a10 a11 a12 a13 a14 a15 a16 a17 a18 a19 q) = some (a0, a1, a2, a3, a4, a5, a6, a7, a8, a9, a10, a11, a12, a13, a14, a15, a16, a17, a18, a19, 0) := by
  have sq : 0 ≤ q ∧ q ≤ 1048576 := by rw [hq]; split <;> decide
  have eq9 : (q == 1) = a9 := by rw [hq]; cases a9 <;> rfl
  obtain ⟨h0, h1, h2, h3, h4, h5, h6, h10, ⟨h11, h12, h13, h14, h15, h16, h17, h18⟩, hs⟩ := h
  unfold StP at hs
  have s0 : 0 ≤ a0 ∧ a0 ≤ 1048576 := by omega
  have s1 : 0 ≤ a1 ∧ a1 ≤ 1048576 := by omega
  have s7 : 0 ≤ a7 ∧ a7 ≤ 1048576 := by omega
  have s8 : 0 ≤ a8 ∧ a8 ≤ 1048576 := by omega
  have s11 : 0 ≤ a11 ∧ a11 ≤ 1048576 := h11
  have s14 : 0 ≤ a14 ∧ a14 ≤ 1048576 := by omega
  have s15 : 0 ≤ a15 ∧ a15 ≤ 1048576 := h15
  unfold rows_TakeEp.f epL
  simp only [eye_word_put, eye_text_put, eye_num_put, eye_small_put s0, eye_small_put s1, eye_small_put s7, eye_small_put s8, eye_small_put sq, eye_small_put s11, eye_small_put s14, eye_small_put s15, eq9]
  rw [if_pos (by rfl), if_neg (by rw [hq]; split <;> decide), hr, Option.bind_some, if_pos rfl]
set_option maxHeartbeats 4000000 in
theorem takeep_any {k : Nat} (l : List VAL) (hl : ∀ x ∈ l, x.f2.size ≤ 140737488351232) : (∃ a0 a1 a2 a3 a4 a5 a6 a7 a8 a9 a10 a11 a12 a13 a14 a15 a16 a17 a18 a19 q, rows_TakeEp.f (k + 2) l = some (a0, a1, a2, a3, a4, a5, a6, a7, a8, a9, a10, a11, a12, a13, a14, a15, a16, a17, a18, a19, 0) ∧ l = epL a0 a1 a2 a3 a4 a5 a6 a7 a8 a9 a10 a11 a12 a13 a14 a15 a16 a17 a18 a19 q ∧ (q = if a9 = true then 1 else 0) ∧ rows_EpRight.f (k + 2) a0 a1 a2 a3 a4 a5 a6 a7 a8 a9 a10 a11 a12 a13 a14 a15 a16 a17 a18 a19 = some true) ∨ rows_TakeEp.f (k + 2) l = some (0, 0, E0, E0, E0, 0, 0, 0, 0, false, 0, 0, 0, E0, 0, 0, E0, 0, 0, E0, 12) := by
  unfold rows_TakeEp.f
  obtain ⟨l1, b1, h1⟩ : ∃ l' b, rows_eye.word l false (⟨#[101, 112]⟩ : ByteArray) = (l', b) := ⟨_, _, rfl⟩
  simp only [h1]
  obtain ⟨x0, l2, b2, h2⟩ : ∃ x l b, rows_eye.small l1 b1 = (x, l, b) := ⟨_, _, _, rfl⟩
  simp only [h2]
  obtain ⟨x1, l3, b3, h3⟩ : ∃ x l b, rows_eye.small l2 b2 = (x, l, b) := ⟨_, _, _, rfl⟩
  simp only [h3]
  obtain ⟨x2, l4, b4, h4⟩ : ∃ x l b, rows_eye.text l3 b3 = (x, l, b) := ⟨_, _, _, rfl⟩
  simp only [h4]
  obtain ⟨x3, l5, b5, h5⟩ : ∃ x l b, rows_eye.text l4 b4 = (x, l, b) := ⟨_, _, _, rfl⟩
  simp only [h5]
  obtain ⟨x4, l6, b6, h6⟩ : ∃ x l b, rows_eye.text l5 b5 = (x, l, b) := ⟨_, _, _, rfl⟩
  simp only [h6]
  obtain ⟨x5, l7, b7, h7⟩ : ∃ x l b, rows_eye.num l6 b6 = (x, l, b) := ⟨_, _, _, rfl⟩
  simp only [h7]
  obtain ⟨x6, l8, b8, h8⟩ : ∃ x l b, rows_eye.num l7 b7 = (x, l, b) := ⟨_, _, _, rfl⟩
  simp only [h8]
  obtain ⟨x7, l9, b9, h9⟩ : ∃ x l b, rows_eye.small l8 b8 = (x, l, b) := ⟨_, _, _, rfl⟩
  simp only [h9]
  obtain ⟨x8, l10, b10, h10⟩ : ∃ x l b, rows_eye.small l9 b9 = (x, l, b) := ⟨_, _, _, rfl⟩
  simp only [h10]
  obtain ⟨x9, l11, b11, h11⟩ : ∃ x l b, rows_eye.small l10 b10 = (x, l, b) := ⟨_, _, _, rfl⟩
  simp only [h11]
  obtain ⟨x10, l12, b12, h12⟩ : ∃ x l b, rows_eye.num l11 b11 = (x, l, b) := ⟨_, _, _, rfl⟩
  simp only [h12]
  obtain ⟨x11, l13, b13, h13⟩ : ∃ x l b, rows_eye.small l12 b12 = (x, l, b) := ⟨_, _, _, rfl⟩
  simp only [h13]
  obtain ⟨x12, l14, b14, h14⟩ : ∃ x l b, rows_eye.num l13 b13 = (x, l, b) := ⟨_, _, _, rfl⟩
  simp only [h14]
  obtain ⟨x13, l15, b15, h15⟩ : ∃ x l b, rows_eye.text l14 b14 = (x, l, b) := ⟨_, _, _, rfl⟩
  simp only [h15]
  obtain ⟨x14, l16, b16, h16⟩ : ∃ x l b, rows_eye.small l15 b15 = (x, l, b) := ⟨_, _, _, rfl⟩
  simp only [h16]
  obtain ⟨x15, l17, b17, h17⟩ : ∃ x l b, rows_eye.small l16 b16 = (x, l, b) := ⟨_, _, _, rfl⟩
  simp only [h17]
  obtain ⟨x16, l18, b18, h18⟩ : ∃ x l b, rows_eye.text l17 b17 = (x, l, b) := ⟨_, _, _, rfl⟩
  simp only [h18]
  obtain ⟨x17, l19, b19, h19⟩ : ∃ x l b, rows_eye.num l18 b18 = (x, l, b) := ⟨_, _, _, rfl⟩
  simp only [h19]
  obtain ⟨x18, l20, b20, h20⟩ : ∃ x l b, rows_eye.num l19 b19 = (x, l, b) := ⟨_, _, _, rfl⟩
  simp only [h20]
  obtain ⟨x19, l21, b21, h21⟩ : ∃ x l b, rows_eye.text l20 b20 = (x, l, b) := ⟨_, _, _, rfl⟩
  simp only [h21]
  by_cases hd : rows_eye.done l21 b21 = true
  · rw [if_pos hd]
    by_cases hp : x9 > 1
    · rw [if_pos hp]
      exact Or.inr rfl
    · rw [if_neg hp]
      obtain ⟨e21, f21⟩ := eye_done_inv hd
      subst e21 f21
      obtain ⟨e19, f19⟩ := eye_text_inv h21
      subst e19 f19
      obtain ⟨e18, f18⟩ := eye_num_inv h20
      subst e18 f18
      obtain ⟨e17, f17⟩ := eye_num_inv h19
      subst e17 f17
      obtain ⟨e16, f16⟩ := eye_text_inv h18
      subst e16 f16
      obtain ⟨g15, e15, f15⟩ := eye_small_inv h17
      subst e15 f15
      obtain ⟨g14, e14, f14⟩ := eye_small_inv h16
      subst e14 f14
      obtain ⟨e13, f13⟩ := eye_text_inv h15
      subst e13 f13
      obtain ⟨e12, f12⟩ := eye_num_inv h14
      subst e12 f12
      obtain ⟨g11, e11, f11⟩ := eye_small_inv h13
      subst e11 f11
      obtain ⟨e10, f10⟩ := eye_num_inv h12
      subst e10 f10
      obtain ⟨g9, e9, f9⟩ := eye_small_inv h11
      subst e9 f9
      obtain ⟨g8, e8, f8⟩ := eye_small_inv h10
      subst e8 f8
      obtain ⟨g7, e7, f7⟩ := eye_small_inv h9
      subst e7 f7
      obtain ⟨e6, f6⟩ := eye_num_inv h8
      subst e6 f6
      obtain ⟨e5, f5⟩ := eye_num_inv h7
      subst e5 f5
      obtain ⟨e4, f4⟩ := eye_text_inv h6
      subst e4 f4
      obtain ⟨e3, f3⟩ := eye_text_inv h5
      subst e3 f3
      obtain ⟨e2, f2⟩ := eye_text_inv h4
      subst e2 f2
      obtain ⟨g1, e1, f1⟩ := eye_small_inv h3
      subst e1 f1
      obtain ⟨g0, e0, f0⟩ := eye_small_inv h2
      subst e0 f0
      obtain ⟨_, f1⟩ := eye_word_inv h1
      subst f1
      obtain ⟨b, hb, _⟩ := ep_ans k x0 x1 x2 x3 x4 x5 x6 x7 x8 (x9 == 1) x10 x11 x12 x13 x14 x15 x16 x17 x18 x19 (hl (⟨2, 0, x19⟩ : VAL) (by simp))
      rw [hb, Option.bind_some]
      cases b with
      | false => exact Or.inr rfl
      | true =>
        refine Or.inl ⟨x0, x1, x2, x3, x4, x5, x6, x7, x8, (x9 == 1), x10, x11, x12, x13, x14, x15, x16, x17, x18, x19, x9, rfl, rfl, ?_, hb⟩
        by_cases c : x9 = 1
        · rw [c]; rfl
        · have : x9 = 0 := by omega
          rw [this]; rfl
  · rw [if_neg hd]
    exact Or.inr rfl

theorem wr64 {x : Int} (h0 : 0 ≤ x) (h1 : x ≤ 9223372036854775807) : wrap64 x = x := by
  unfold wrap64
  omega

theorem awake_eq {k : Nat} (hk : 400 ≤ k) : newsreellaw14_awake.f k = some true := at_rounds newsreellaw14_awake.mono hk (by kernel_rfl)
theorem rdV_app (p t : List VAL) (x : VAL) : rd_T45 (p ++ x :: t) (p.length : Int) = x := by simp [rd_T45]
theorem val_ext {x y : VAL} (h0 : x.f0 = y.f0) (h1 : x.f1 = y.f1) (h2 : x.f2.toList = y.f2.toList) : x = y := by
  have h3 : x.f2 = y.f2 := by
    apply ext_data
    rw [← toList_data, ← toList_data, h2]
  cases x
  cases y
  simp only at h0 h1 h3
  rw [h0, h1, h3]
theorem vsame_l {a b : List VAL} (hn : a.length ≤ 10000) (hb : a.length = b.length) : ∀ (t u p q : List VAL) (k : Nat), a = p ++ t → b = q ++ u → p.length = q.length → t.length < k → ∃ c, newsreelref07_Same.l0 k a b (p.length : Int) = some c ∧ (c = true ↔ t = u) := by
  intro t
  induction t with
  | nil =>
    intro u p q k e1 e2 e3 hk
    obtain ⟨k, rfl⟩ : ∃ m, k = m + 1 := ⟨k - 1, by omega⟩
    have : u = [] := by
      rw [e1, e2] at hb
      simp at hb
      exact List.length_eq_zero_iff.mp (by omega)
    subst this
    simp only [newsreelref07_Same.l0]
    rw [if_neg (by rw [e1]; simp)]
    exact ⟨true, rfl, by simp⟩
  | cons x t ih =>
    intro u p q k e1 e2 e3 hk
    obtain ⟨k, rfl⟩ : ∃ m, k = m + 1 := ⟨k - 1, by omega⟩
    have hla : a.length = p.length + (t.length + 1) := by rw [e1]; simp
    cases u with
    | nil =>
      exfalso
      rw [e1, e2] at hb
      simp at hb
      omega
    | cons y u =>
      have h1 : rd_T45 a (p.length : Int) = x := by rw [e1]; exact rdV_app p t x
      have h2 : rd_T45 b (p.length : Int) = y := by rw [e2, e3]; exact rdV_app q u y
      simp only [newsreelref07_Same.l0]
      rw [if_pos (by omega), if_pos (by omega), if_pos (by omega), h1, h2, wr64 (by omega) (by omega)]
      obtain ⟨c, hc, hi⟩ := ih u (p ++ [x]) (q ++ [y]) k (by simpa using e1) (by simpa using e2) (by simp [e3]) (by simp at hk; omega)
      rw [show (((p ++ [x]).length : Nat) : Int) = (p.length : Int) + 1 by simp] at hc
      by_cases c0 : x.f0 = y.f0 ∧ x.f1 = y.f1 ∧ x.f2.toList = y.f2.toList
      · rw [if_neg (by rw [c0.1, c0.2.1, c0.2.2]; simp), hc]
        obtain rfl := val_ext c0.1 c0.2.1 c0.2.2
        exact ⟨c, rfl, by rw [hi]; simp⟩
      · rw [if_pos (by simp only [Bool.or_eq_true, Bool.not_eq_true', beq_eq_false_iff_ne, ne_eq]; by_cases d0 : x.f0 = y.f0 <;> by_cases d1 : x.f1 = y.f1 <;> simp_all)]
        refine ⟨false, rfl, fun h => (by cases h), fun h => ?_⟩
        obtain ⟨rfl, _⟩ := List.cons.inj h
        exact absurd ⟨rfl, rfl, rfl⟩ c0
theorem vsame_iff {k : Nat} {a b : List VAL} (hn : a.length ≤ 10000) (hk : 100000 < k) : ∃ c, newsreelref07_Same.f k a b = some c ∧ (c = true ↔ a = b) := by
  unfold newsreelref07_Same.f
  by_cases h : a.length = b.length
  · rw [if_pos (by omega)]
    exact vsame_l hn h a b [] [] k rfl rfl rfl (by omega)
  · rw [if_neg (by omega)]
    exact ⟨false, rfl, fun h => (by cases h), fun e => absurd (by rw [e]) h⟩
theorem vsame_refl {k : Nat} {a : List VAL} (hn : a.length ≤ 10000) (hk : 100000 < k) : newsreelref07_Same.f k a a = some true := by
  obtain ⟨c, hc, hi⟩ := vsame_iff (b := a) hn hk
  rw [hc, hi.mpr rfl]
theorem int20_any (a : Int) : ∃ x, newsreelref14_int20.f a = some x := by
  unfold newsreelref14_int20.f
  split
  · exact ⟨_, rfl⟩
  · split
    · exact ⟨_, rfl⟩
    · exact ⟨_, rfl⟩
theorem int20_in {a : Int} (h : 0 ≤ a) (h2 : a ≤ 1048576) : newsreelref14_int20.f a = some a := by
  unfold newsreelref14_int20.f
  rw [if_neg (by omega), if_neg (by omega)]
theorem Ans.yes {x : Option Bool} {P : Prop} (h : Ans x P) (hp : P) : x = some true := by
  obtain ⟨b, h1, h2⟩ := h
  rw [h1, h2.mpr hp]
theorem reffeedL (a0 : Int) (a1 a2 : ByteArray) (a3 a4 : Int) : newsreelref14_Feed.f a0 a1 a2 a3 a4 = some (feedL a0 a1 a2 a3 a4) := by
  unfold newsreelref14_Feed.f
  simp only [newsreelref14_t.f, newsreelref14_n.f, Option.bind_some]
  rfl
theorem feed_take {k : Nat} (hk : 100000 < k) (l : List VAL) (hl : l.length ≤ 10000) : newsreelref14_TakeFeed.f k l = rows_TakeFeed.f l := by
  rcases takefeed_any l with ⟨a0, a1, a2, a3, a4, e1, rfl, e3⟩ | e1
  · obtain ⟨b, hb, hi⟩ := feed_ans a0 a1 a2 a3 a4
    rw [e3] at hb
    obtain rfl := (Option.some.inj hb)
    have hp := hi.mp rfl
    rw [e1]
    unfold newsreelref14_TakeFeed.f
    rw [if_pos (by rfl)]
    show ((newsreelref14_int20.f a0).bind fun x1 => (newsreelref14_int20.f a4).bind fun x5 => (newsreelref14_FeedRight.f x1 a1 a2 a3 x5).bind fun b => if b = true then ((newsreelref14_Feed.f x1 a1 a2 a3 x5).bind fun m => (newsreelref07_Same.f k m (feedL a0 a1 a2 a3 a4)).bind fun c => if c = true then some (x1, a1, a2, a3, x5, 0) else some (0, E0, E0, 0, 0, 12)) else some (0, E0, E0, 0, 0, 12)) = _
    rw [int20_in (by have := hp.1; omega) hp.1.2, Option.bind_some, int20_in hp.2.2.2.2.1 hp.2.2.2.2.2, Option.bind_some, Ans.yes (reffeed_ans a0 a1 a2 a3 a4) hp, Option.bind_some, if_pos rfl, reffeedL, Option.bind_some, vsame_refl hl hk, Option.bind_some, if_pos rfl]
  · rw [e1]
    unfold newsreelref14_TakeFeed.f
    by_cases hn : l.length = 6
    · rw [if_pos hn]
      obtain ⟨x0, q0⟩ := int20_any (rd_T45 l 1).f1
      obtain ⟨x4, q4⟩ := int20_any (rd_T45 l 5).f1
      rw [q0, Option.bind_some, q4, Option.bind_some]
      obtain ⟨b, hb, hi⟩ := reffeed_ans x0 (rd_T45 l 2).f2 (rd_T45 l 3).f2 (rd_T45 l 4).f1 x4
      rw [hb, Option.bind_some]
      cases b with
      | false => rw [if_neg (by decide)]
      | true =>
        rw [if_pos rfl, reffeedL, Option.bind_some]
        obtain ⟨c, hc, hci⟩ := vsame_iff (k := k) (a := feedL x0 (rd_T45 l 2).f2 (rd_T45 l 3).f2 (rd_T45 l 4).f1 x4) (b := l) (by show 6 ≤ 10000; decide) hk
        rw [hc, Option.bind_some]
        cases c with
        | false => rw [if_neg (by decide)]
        | true =>
          exfalso
          have hp := hi.mp rfl
          have := takefeed_put hp (Ans.yes (feed_ans _ _ _ _ _) hp)
          rw [hci.mp rfl, e1] at this
          have h2 := congrArg (fun z => z.map fun y => y.2.2.2.2.2) this
          cases h2
    · rw [if_neg hn]
theorem refepL {k : Nat} (a0 : Int) (a1 : Int) (a2 : ByteArray) (a3 : ByteArray) (a4 : ByteArray) (a5 : Int) (a6 : Int) (a7 : Int) (a8 : Int) (a9 : Bool) (a10 : Int) (a11 : Int) (a12 : Int) (a13 : ByteArray) (a14 : Int) (a15 : Int) (a16 : ByteArray) (a17 : Int) (a18 : Int) (a19 : ByteArray) : newsreelref14_Ep.f (k + 1) a0 a1 a2 a3 a4 a5 a6 a7 a8 a9 a10 a11 a12 a13 a14 a15 a16 a17 a18 a19 = some (epL a0 a1 a2 a3 a4 a5 a6 a7 a8 a9 a10 a11 a12 a13 a14 a15 a16 a17 a18 a19 (if a9 = true then 1 else 0)) := by
  unfold newsreelref14_Ep.f
  simp only [newsreelref14_Ep.j0, newsreelref14_t.f, newsreelref14_n.f, Option.bind_some]
  cases a9
  · rfl
  · rfl
theorem ep_take {k : Nat} (hk : 100000 < k) (l : List VAL) (hl : l.length ≤ 10000) (hs : ∀ x ∈ l, x.f2.size ≤ 10000) : newsreelref14_TakeEp.f (k + 3) l = rows_TakeEp.f (k + 3) l := by
  rcases takeep_any (k := k + 1) l (fun x hx => Nat.le_trans (hs x hx) (by decide)) with ⟨a0, a1, a2, a3, a4, a5, a6, a7, a8, a9, a10, a11, a12, a13, a14, a15, a16, a17, a18, a19, q, e1, rfl, hq, e3⟩ | e1
  · have h19 : a19.size ≤ 10000 := hs ⟨2, 0, a19⟩ (by unfold epL; simp)
    obtain ⟨b, hb, hi⟩ := ep_ans (k + 1) a0 a1 a2 a3 a4 a5 a6 a7 a8 a9 a10 a11 a12 a13 a14 a15 a16 a17 a18 a19 (by omega)
    rw [e3] at hb
    obtain rfl := (Option.some.inj hb)
    have hp := hi.mp rfl
    have eq9 : (q == 1) = a9 := by rw [hq]; cases a9 <;> rfl
    rw [e1]
    unfold newsreelref14_TakeEp.f
    rw [if_pos (by rfl)]
    show ((newsreelref14_int20.f a0).bind fun x0 => (newsreelref14_int20.f a1).bind fun x1 => (newsreelref14_int20.f a7).bind fun x7 => (newsreelref14_int20.f a8).bind fun x8 => (newsreelref14_int20.f a11).bind fun x11 => (newsreelref14_int20.f a14).bind fun x14 => (newsreelref14_int20.f a15).bind fun x15 =>  (newsreelref14_EpRight.f (k + 3) x0 x1 a2 a3 a4 a5 a6 x7 x8 (q == 1) a10 x11 a12 a13 x14 x15 a16 a17 a18 a19).bind fun b => if b = true then ((newsreelref14_Ep.f (k + 3) x0 x1 a2 a3 a4 a5 a6 x7 x8 (q == 1) a10 x11 a12 a13 x14 x15 a16 a17 a18 a19).bind fun m => (newsreelref07_Same.f (k + 3) m (epL a0 a1 a2 a3 a4 a5 a6 a7 a8 a9 a10 a11 a12 a13 a14 a15 a16 a17 a18 a19 q)).bind fun c => if c = true then some (x0, x1, a2, a3, a4, a5, a6, x7, x8, (q == 1), a10, x11, a12, a13, x14, x15, a16, a17, a18, a19, 0) else some (0, 0, E0, E0, E0, 0, 0, 0, 0, false, 0, 0, 0, E0, 0, 0, E0, 0, 0, E0, 12)) else some (0, 0, E0, E0, E0, 0, 0, 0, 0, false, 0, 0, 0, E0, 0, 0, E0, 0, 0, E0, 12)) = _
    obtain ⟨h0, h1, h2, h3, h4, h5, h6, h10, ⟨h11, h12, h13, h14, h15, h16, h17, h18⟩, hst⟩ := id hp
    unfold StP at hst
    rw [int20_in (by omega) (by omega), Option.bind_some, int20_in (by omega) (by omega), Option.bind_some, int20_in (by omega) (by omega), Option.bind_some, int20_in (by omega) (by omega), Option.bind_some, int20_in (by omega) (by omega), Option.bind_some, int20_in (by omega) (by omega), Option.bind_some, int20_in (by omega) (by omega), Option.bind_some, eq9, Ans.yes (refep_ans (k := k) (by omega) a0 a1 a2 a3 a4 a5 a6 a7 a8 a9 a10 a11 a12 a13 a14 a15 a16 a17 a18 a19 (by omega)) hp, Option.bind_some, if_pos rfl, refepL, Option.bind_some, ← hq, vsame_refl hl (by omega), Option.bind_some, if_pos rfl]
  · rw [e1]
    unfold newsreelref14_TakeEp.f
    by_cases hn : l.length = 21
    · rw [if_pos hn]
      obtain ⟨x0, q0⟩ := int20_any (rd_T45 l 1).f1
      obtain ⟨x1, q1⟩ := int20_any (rd_T45 l 2).f1
      obtain ⟨x7, q7⟩ := int20_any (rd_T45 l 8).f1
      obtain ⟨x8, q8⟩ := int20_any (rd_T45 l 9).f1
      obtain ⟨x11, q11⟩ := int20_any (rd_T45 l 12).f1
      obtain ⟨x14, q14⟩ := int20_any (rd_T45 l 15).f1
      obtain ⟨x15, q15⟩ := int20_any (rd_T45 l 16).f1
      rw [q0, Option.bind_some, q1, Option.bind_some, q7, Option.bind_some, q8, Option.bind_some, q11, Option.bind_some, q14, Option.bind_some, q15, Option.bind_some]
      obtain ⟨b, hb, hi⟩ := refep_ans (k := k) (by omega) x0 x1 ((rd_T45 l 3).f2) ((rd_T45 l 4).f2) ((rd_T45 l 5).f2) ((rd_T45 l 6).f1) ((rd_T45 l 7).f1) x7 x8 (((rd_T45 l 10).f1 == 1)) ((rd_T45 l 11).f1) x11 ((rd_T45 l 13).f1) ((rd_T45 l 14).f2) x14 x15 ((rd_T45 l 17).f2) ((rd_T45 l 18).f1) ((rd_T45 l 19).f1) ((rd_T45 l 20).f2) (by have h_ : rd_T45 l 20 ∈ l := (by unfold rd_T45; simp only [show (20 : Int).toNat = 20 from rfl]; rw [List.getD_eq_getElem?_getD, List.getElem?_eq_getElem (by omega)]; exact List.getElem_mem _); have := hs _ h_; omega)
      rw [hb, Option.bind_some]
      cases b with
      | false => rw [if_neg (by decide)]
      | true =>
        rw [if_pos rfl, refepL, Option.bind_some]
        obtain ⟨c, hc, hci⟩ := vsame_iff (k := k + 3) (a := epL x0 x1 ((rd_T45 l 3).f2) ((rd_T45 l 4).f2) ((rd_T45 l 5).f2) ((rd_T45 l 6).f1) ((rd_T45 l 7).f1) x7 x8 (((rd_T45 l 10).f1 == 1)) ((rd_T45 l 11).f1) x11 ((rd_T45 l 13).f1) ((rd_T45 l 14).f2) x14 x15 ((rd_T45 l 17).f2) ((rd_T45 l 18).f1) ((rd_T45 l 19).f1) ((rd_T45 l 20).f2) (if ((rd_T45 l 10).f1 == 1) = true then 1 else 0)) (b := l) (by show 21 ≤ 10000; decide) (by omega)
        rw [hc, Option.bind_some]
        cases c with
        | false => rw [if_neg (by decide)]
        | true =>
          exfalso
          have hp := hi.mp rfl
          have hr := Ans.yes (ep_ans (k + 1) x0 x1 ((rd_T45 l 3).f2) ((rd_T45 l 4).f2) ((rd_T45 l 5).f2) ((rd_T45 l 6).f1) ((rd_T45 l 7).f1) x7 x8 (((rd_T45 l 10).f1 == 1)) ((rd_T45 l 11).f1) x11 ((rd_T45 l 13).f1) ((rd_T45 l 14).f2) x14 x15 ((rd_T45 l 17).f2) ((rd_T45 l 18).f1) ((rd_T45 l 19).f1) ((rd_T45 l 20).f2) (by have h_ : rd_T45 l 20 ∈ l := (by unfold rd_T45; simp only [show (20 : Int).toNat = 20 from rfl]; rw [List.getD_eq_getElem?_getD, List.getElem?_eq_getElem (by omega)]; exact List.getElem_mem _); have := hs _ h_; omega)) hp
          have := takeep_put rfl hp hr
          rw [hci.mp rfl, e1] at this
          have h2 := congrArg (fun z => z.map fun y => y.2.2.2.2.2.2.2.2.2.2.2.2.2.2.2.2.2.2.2.2) this
          cases h2
    · rw [if_neg hn]
theorem long_sizes {k : Nat} {l : List VAL} (hk : 3000 < k) : ∃ b, newsreelref07_Long.f k l = some b ∧ (b = false → l.length ≤ 1010 ∧ ∀ x ∈ l, x.f2.size ≤ 4200) := by
  unfold newsreelref07_Long.f
  have go : ∀ (t p : List VAL) (k : Nat) (x : Int), l = p ++ t → (∀ y ∈ p, y.f2.size ≤ 4200) → p.length ≤ 1011 → 2 * (1012 - p.length) + 4 < k → ∃ b, newsreelref07_Long.l0 k l x (p.length : Int) = some b ∧ (b = false → l.length ≤ 1010 ∧ ∀ x ∈ l, x.f2.size ≤ 4200) := by
    intro t
    induction t with
    | nil =>
      intro p k x e hp h1 hk
      obtain ⟨k, rfl⟩ : ∃ m, k = m + 2 := ⟨k - 2, by omega⟩
      have hl : l.length = p.length := by rw [e]; simp
      simp only [newsreelref07_Long.l0, newsreelref07_Long.j1]
      rw [if_neg (by omega), if_neg (by decide)]
      by_cases c : (l.length : Int) > 1010
      · rw [if_pos c]
        exact ⟨_, rfl, fun h => by cases h⟩
      · rw [if_neg c]
        exact ⟨_, rfl, fun _ => ⟨by omega, by rw [e, List.append_nil]; exact hp⟩⟩
    | cons y t ih =>
      intro p k x e hp h1 hk
      obtain ⟨k, rfl⟩ : ∃ m, k = m + 2 := ⟨k - 2, by omega⟩
      have hl : l.length = p.length + (t.length + 1) := by rw [e]; simp
      have hy : rd_T45 l (p.length : Int) = y := by rw [e]; exact rdV_app p t y
      simp only [newsreelref07_Long.l0, newsreelref07_Long.j1]
      rw [if_pos (by omega)]
      by_cases c : (p.length : Int) ≤ 1010
      · rw [decide_eq_true c, if_pos rfl, if_pos (by omega), if_pos (by omega), hy]
        by_cases c2 : (y.f2.size : Int) > 4200
        · rw [if_pos c2]
          exact ⟨_, rfl, fun h => by cases h⟩
        · rw [if_neg c2, wr64 (x := (p.length : Int) + 1) (by omega) (by omega)]
          have := ih (p ++ [y]) k (wrap64 (x + (y.f2.size : Int))) (by simpa using e) (fun z hz => by
            rcases List.mem_append.mp hz with h | h
            · exact hp z h
            · simp at h
              subst h
              omega) (by simp; omega) (by simp; omega)
          rwa [show (((p ++ [y]).length : Nat) : Int) = (p.length : Int) + 1 by simp] at this
      · rw [decide_eq_false c, if_neg (by decide), if_pos (by omega)]
        exact ⟨_, rfl, fun h => by cases h⟩
  exact go l [] k 0 rfl (fun y hy => by cases hy) (by simp) (by simp; omega)
theorem RowsTake : newsreellaw14_RowsTake.Pure := by
  intro x hx
  refine ⟨400004, ?_⟩
  have htrue : newsreellaw14_RowsTake.j0 400004 x true = some true := by
    simp only [newsreellaw14_RowsTake.j0]
    rw [if_pos trivial, awake_eq (by decide)]
    rfl
  unfold newsreellaw14_RowsTake.f
  obtain ⟨b, hb, hi⟩ := long_sizes (k := 400004) (l := x) (by decide)
  rw [hb, Option.bind_some]
  cases b with
  | true =>
    rw [if_pos rfl]
    exact htrue
  | false =>
    rw [if_neg (by decide)]
    obtain ⟨h1, h2⟩ := hi rfl
    by_cases c : (x.length : Int) > 40
    · rw [decide_eq_true c]
      exact htrue
    · rw [decide_eq_false c]
      show newsreellaw14_RowsTake.j0 (400003 + 1) x false = some true
      simp only [newsreellaw14_RowsTake.j0]
      obtain ⟨r, hr⟩ : ∃ r, rows_TakeFeed.f x = some r := by
        rcases takefeed_any x with ⟨a0, a1, a2, a3, a4, e, _, _⟩ | e
        · exact ⟨_, e⟩
        · exact ⟨_, e⟩
      obtain ⟨s, hs⟩ : ∃ s, rows_TakeEp.f 400003 x = some s := by
        rcases takeep_any (k := 400001) x (fun z hz => Nat.le_trans (h2 z hz) (by decide)) with ⟨a0, a1, a2, a3, a4, a5, a6, a7, a8, a9, a10, a11, a12, a13, a14, a15, a16, a17, a18, a19, q, e, _, _, _⟩ | e
        · exact ⟨_, e⟩
        · exact ⟨_, e⟩
      have hf2 : newsreelref14_TakeFeed.f 400003 x = some r := (feed_take (by decide) x (by omega)).trans hr
      have he2 : newsreelref14_TakeEp.f 400003 x = some s := (ep_take (k := 400000) (by decide) x (by omega) (fun z hz => Nat.le_trans (h2 z hz) (by decide))).trans hs
      rw [if_neg (by decide), hr, Option.bind_some, hf2, Option.bind_some, hs, Option.bind_some, he2, Option.bind_some]
      simp only [beq_self_eq_true, Bool.and_self, if_true]
      rw [awake_eq (by decide)]
      rfl
end Go.Proofs.YtkakmncdmjgojaaDoor.Pure

