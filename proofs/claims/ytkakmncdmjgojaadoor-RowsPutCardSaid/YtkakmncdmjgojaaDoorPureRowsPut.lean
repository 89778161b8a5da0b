/- The law RowsPut is true for every input: which feeds and episodes are right, and the rows that any ones are put into, are what the reference says. No condition beyond the row's own. -/
import Derived.Test.YtkakmncdmjgojaaDoorPRowsPutx11
import Derived.Test.YtkakmncdmjgojaaDoorStr
set_option linter.unusedVariables false
set_option linter.unusedSimpArgs false
namespace Go.Proofs.YtkakmncdmjgojaaDoor.Pure
open Go Go.RowKit Go.Proofs.YtkakmncdmjgojaaDoor.PRowsPut Go.Proofs.YtkakmncdmjgojaaDoorW.PrintWords Go.Proofs.YtkakmncdmjgojaaDoorW.PrintLast Go.Proofs.YtkakmncdmjgojaaDoorW.PrintMore Go.Proofs.YtkakmncdmjgojaaDoor.Kit Go.Proofs.YtkakmncdmjgojaaDoor.Str

/-! ### answers of chained questions -/
/-- x answers whether P. -/
def Ans (x : Option Bool) (P : Prop) : Prop := ∃ b, x = some b ∧ (b = true ↔ P)
theorem Ans.dec (P : Prop) [Decidable P] : Ans (some (decide P)) P := ⟨_, rfl, decide_eq_true_iff⟩
theorem Ans.iff {x : Option Bool} {P Q : Prop} (h : Ans x P) (e : P ↔ Q) : Ans x Q := by
  obtain ⟨b, h1, h2⟩ := h
  exact ⟨b, h1, h2.trans e⟩
theorem Ans.and {x y e : Option Bool} {P Q : Prop} (hx : Ans x P) (hy : Ans y Q) (he : e = some false) : Ans (x.bind fun t => if t = true then y else e) (P ∧ Q) := by
  obtain ⟨b, rfl, h⟩ := hx
  obtain ⟨c, rfl, h'⟩ := hy
  subst he
  cases b with
  | true => exact ⟨c, rfl, fun hc => ⟨h.mp rfl, h'.mp hc⟩, fun hc => h'.mpr hc.2⟩
  | false => exact ⟨false, rfl, fun hc => (by cases hc), fun hc => (by have := h.mpr hc.1; cases this)⟩
theorem Ans.last {x : Option Bool} {P : Prop} (hx : Ans x P) : Ans (x.bind fun t => some t) P := by
  obtain ⟨b, rfl, h⟩ := hx
  exact ⟨b, rfl, h⟩
theorem Ans.ite {c Q : Prop} [Decidable c] {y e : Option Bool} (hy : c → Ans y Q) (he : e = some false) : Ans (if c then y else e) (c ∧ Q) := by
  by_cases h : c
  · obtain ⟨b, rfl, h'⟩ := hy h
    rw [if_pos h]
    exact ⟨b, rfl, fun hc => ⟨h, h'.mp hc⟩, fun hc => h'.mpr hc.2⟩
  · rw [if_neg h, he]
    exact ⟨false, rfl, fun hc => (by cases hc), fun hc => absurd hc.1 h⟩
theorem Ans.unless {c Q : Prop} [Decidable c] {y e : Option Bool} (he : e = some false) (hy : ¬c → Ans y Q) : Ans (if c then e else y) (¬c ∧ Q) := by
  by_cases h : c
  · rw [if_pos h, he]
    exact ⟨false, rfl, fun hc => (by cases hc), fun hc => absurd h hc.1⟩
  · obtain ⟨b, rfl, h'⟩ := hy h
    rw [if_neg h]
    exact ⟨b, rfl, fun hc => ⟨h, h'.mp hc⟩, fun hc => h'.mpr hc.2⟩
theorem Ans.not {x : Option Bool} {P Q : Prop} {F : Bool → Option Bool} (hx : Ans x P) (he : F true = some false) (hy : Ans (F false) Q) : Ans (x.bind fun t => F (!t)) (P ∧ Q) := by
  obtain ⟨b, rfl, h⟩ := hx
  obtain ⟨c, hy, h'⟩ := hy
  cases b with
  | true => exact ⟨c, hy, fun hc => ⟨h.mp rfl, h'.mp hc⟩, fun hc => h'.mpr hc.2⟩
  | false => exact ⟨false, he, fun hc => (by cases hc), fun hc => (by have := h.mpr hc.1; cases this)⟩
theorem Ans.ofdec {c Q : Prop} [Decidable c] {F : Bool → Option Bool} (he : F true = some false) (hy : Ans (F false) Q) : Ans (F (decide c)) (¬c ∧ Q) := by
  obtain ⟨b, hy, h'⟩ := hy
  by_cases h : c
  · rw [decide_eq_true h]
    exact ⟨false, he, fun hc => (by cases hc), fun hc => absurd h hc.1⟩
  · rw [decide_eq_false h]
    exact ⟨b, hy, fun hc => ⟨h, h'.mp hc⟩, fun hc => h'.mpr hc.2⟩
theorem Ans.same {x y : Option Bool} {P : Prop} (hx : Ans x P) (hy : Ans y P) : ∃ b, x = some b ∧ y = some b ∧ (b = true ↔ P) := by
  obtain ⟨b, h1, h2⟩ := hx
  obtain ⟨c, h3, h4⟩ := hy
  have : b = c := Bool.eq_iff_iff.mpr (h2.trans h4.symm)
  exact ⟨b, h1, by rw [this]; exact h3, h2⟩
theorem Ans.beq {α : Type} [BEq α] [LawfulBEq α] (a b : α) : Ans (some (a == b)) (a = b) := ⟨_, rfl, beq_iff_eq⟩

theorem dw_nil {α : Type} (p : α → Bool) : ∀ l : List α, l.dropWhile p = [] ↔ ∀ x ∈ l, p x = true
  | [] => by simp
  | x :: l => by
    rw [List.dropWhile_cons]
    by_cases h : p x = true
    · rw [if_pos h, dw_nil p l]
      constructor
      · intro hl y hy
        rcases List.mem_cons.mp hy with rfl | hy
        · exact h
        · exact hl y hy
      · intro hl y hy
        exact hl y (List.mem_cons_of_mem _ hy)
    · rw [if_neg h]
      constructor
      · intro e; cases e
      · intro hl; exact absurd (hl x (List.mem_cons_self ..)) h
theorem dw_head {α : Type} (p : α → Bool) : ∀ (l : List α) {x : α} {r : List α}, l.dropWhile p = x :: r → p x = false
  | [], _, _, h => by cases h
  | y :: l, x, r, h => by
    rw [List.dropWhile_cons] at h
    by_cases hy : p y = true
    · rw [if_pos hy] at h; exact dw_head p l h
    · rw [if_neg hy] at h
      cases h
      simpa using hy
theorem trimS_nil (l cs : List UInt8) : Lib.trimS l cs = [] ↔ ∀ x ∈ l, cs.contains x = true := by
  unfold Lib.trimS Lib.trimLeftS Lib.trimRightS
  constructor
  · intro h
    rw [dw_nil] at h
    cases hn : l.reverse.dropWhile (cs.contains ·) with
    | nil =>
      rw [dw_nil] at hn
      intro x hx
      exact hn x (List.mem_reverse.mpr hx)
    | cons x r =>
      have h1 := dw_head _ _ hn
      have h2 := h x (List.mem_reverse.mpr (by rw [hn]; exact List.mem_cons_self ..))
      rw [h2] at h1
      cases h1
  · intro h
    have : l.reverse.dropWhile (cs.contains ·) = [] := (dw_nil _ _).mpr fun x hx => h x (List.mem_reverse.mp hx)
    rw [this]
    rfl
theorem trim_all {l : List Int} (hl : Bs l) (cs : List UInt8) : ∀ x ∈ l, cs.contains x.toNat.toUInt8 = (cs.map fun b => (b.toNat : Int)).contains x := by
  intro x hx
  have := hl x hx
  rw [Bool.eq_iff_iff, List.contains_iff_mem, List.contains_iff_mem, List.mem_map]
  constructor
  · intro h
    exact ⟨_, h, by simp only [Nat.toUInt8, UInt8.toNat_ofNat']; omega⟩
  · rintro ⟨b, hb, e⟩
    have : x.toNat.toUInt8 = b := by rw [← e]; simp
    rwa [this]

/-! ### a sum's digits -/
def hexC (c : Int) : Bool := decide (48 ≤ c ∧ c ≤ 57 ∨ 97 ≤ c ∧ c ≤ 102)
def hexWd : List UInt8 := [48, 49, 50, 51, 52, 53, 54, 55, 56, 57, 97, 98, 99, 100, 101, 102]
theorem hexWd_all : ∀ c : Fin 256, (hexWd.map fun b => (b.toNat : Int)).contains (c.val : Int) = hexC (c.val : Int) := by decide +kernel
theorem hexWd_eq {c : Int} (h : 0 ≤ c ∧ c < 256) : (hexWd.map fun b => (b.toNat : Int)).contains c = hexC c := by
  obtain ⟨m, rfl⟩ := Int.eq_ofNat_of_zero_le h.1
  exact hexWd_all ⟨m, by omega⟩
theorem trimHex_eq {h : List Int} (hb : Bs h) (lh : h.length ≤ 140737488351232) : ∃ r : ByteArray, strings_Trim.f (strOfNums h) ⟨hexWd.toArray⟩ = some r ∧ (r.toList == ([] : List UInt8)) = h.all hexC := by
  unfold strings_Trim.f
  rw [if_pos ⟨by rw [nums_size]; omega, by decide, by decide⟩]
  refine ⟨_, rfl, ?_⟩
  rw [toList_data, nums_data, Bool.eq_iff_iff]
  simp only [List.all_eq_true]
  rw [beq_iff_eq, trimS_nil]
  constructor
  · intro hh x hx
    have := hh _ (List.mem_map_of_mem hx)
    rwa [trim_all hb _ x hx, hexWd_eq (hb x hx)] at this
  · intro hh y hy
    obtain ⟨x, hx, rfl⟩ := List.mem_map.mp hy
    show hexWd.contains x.toNat.toUInt8 = true
    rw [trim_all hb _ x hx, hexWd_eq (hb x hx)]
    exact hh x hx

/-! ### rows: which feeds and episodes are right, for the program -/
theorem in_ans (a lo hi : Int) : Ans (rows_in.f a lo hi) (lo ≤ a ∧ a ≤ hi) := by
  unfold rows_in.f
  exact Ans.ite (fun _ => Ans.dec _) rfl
theorem id_ans (a : Int) : Ans (rows_id.f a) (1 ≤ a ∧ a ≤ 1048576) := Ans.last (in_ans _ _ _)
theorem times_ans (a : Int) : Ans (rows_times.f a) (0 ≤ a ∧ a ≤ 1048576) := Ans.last (in_ans _ _ _)
theorem is_ans (a : Int) : Ans (num_Is.f a) (0 ≤ a ∧ a ≤ 1099511627776) := by
  unfold num_Is.f
  exact Ans.ite (fun _ => Ans.dec _) rfl
theorem few_ans (a : ByteArray) : Ans (rows_few.f a) ((a.size : Int) ≤ 200) := Ans.dec _
theorem empty_iff (a : ByteArray) : a.toList = ([] : List UInt8) ↔ a.size = 0 := by
  rw [toList_data, size_list]
  unfold bytesOf
  rw [List.length_map, List.length_eq_zero_iff]
theorem some_ans (a : ByteArray) : Ans (rows_some.f a) (1 ≤ (a.size : Int) ∧ (a.size : Int) ≤ 200) := by
  unfold rows_some.f
  refine Ans.iff (Ans.unless rfl (fun _ => Ans.last (few_ans a))) ?_
  rw [empty_iff]
  omega
def FeedP (a0 : Int) (a1 a2 : ByteArray) (a3 a4 : Int) : Prop := (1 ≤ a0 ∧ a0 ≤ 1048576) ∧ (1 ≤ (a1.size : Int) ∧ (a1.size : Int) ≤ 200) ∧ (a2.size : Int) ≤ 200 ∧ (0 ≤ a3 ∧ a3 ≤ 1099511627776) ∧ (0 ≤ a4 ∧ a4 ≤ 1048576)
theorem feed_ans (a0 : Int) (a1 a2 : ByteArray) (a3 a4 : Int) : Ans (rows_FeedRight.f a0 a1 a2 a3 a4) (FeedP a0 a1 a2 a3 a4) :=
  Ans.and (id_ans _) (Ans.and (some_ans _) (Ans.and (few_ans _) (Ans.and (is_ans _) (Ans.last (times_ans _)) rfl) rfl) rfl) rfl
def SumP (a : ByteArray) : Prop := a.size = 64 ∧ (bytesOf a).all hexC = true
theorem sum_ans (a : ByteArray) (h : a.size ≤ 140737488351232) : Ans (rows_sum.f a) (SumP a) := by
  unfold rows_sum.f
  have e := trimHex_eq (Bs.of a) (by rw [← size_list]; omega)
  obtain ⟨r, h1, h2⟩ := e
  rw [nums_bytesOf] at h1
  rw [show (⟨#[48, 49, 50, 51, 52, 53, 54, 55, 56, 57, 97, 98, 99, 100, 101, 102]⟩ : ByteArray) = ⟨hexWd.toArray⟩ from rfl, h1, Option.bind_some]
  have hA : Ans ((some r).bind fun t146 => (some (t146.toList == ([] : List UInt8)))) ((bytesOf a).all hexC = true) := ⟨_, rfl, by rw [h2]⟩
  rw [Option.bind_some] at hA
  refine Ans.iff (Ans.ite (c := (a.size : Int) = 64) (fun _ => hA) rfl) ?_
  unfold SumP
  exact ⟨fun h => ⟨by have := h.1; omega, h.2⟩, fun h => ⟨by have := h.1; omega, h.2⟩⟩
def StP (a7 a8 a18 : Int) (a19 : ByteArray) : Prop := (1 ≤ a7 ∧ a7 ≤ 5) ∧ (a7 = 4 ∧ (1 ≤ a8 ∧ a8 ≤ 4) ∧ a19.size = 0 ∧ a18 = 0 ∨ a7 = 3 ∧ a8 = 0 ∧ SumP a19 ∨ a7 ≠ 4 ∧ a7 ≠ 3 ∧ a8 = 0 ∧ a19.size = 0 ∧ a18 = 0)
theorem state_j0 (k : Nat) (a0 a1 : Int) (a2 a3 a4 : ByteArray) (a5 a6 a7 a8 : Int) (a9 : Bool) (a10 a11 a12 : Int) (a13 : ByteArray) (a14 a15 : Int) (a16 : ByteArray) (a17 a18 : Int) (a19 : ByteArray) (h : a19.size ≤ 140737488351232) (h7 : 1 ≤ a7) (h75 : a7 ≤ 5) :
    Ans (rows_state.j0 (k + 1) false a0 a1 a2 a3 a4 a5 a6 a7 a8 a9 a10 a11 a12 a13 a14 a15 a16 a17 a18 a19) (StP a7 a8 a18 a19) := by
  simp only [rows_state.j0]
  rw [if_neg (by decide)]
  have bare : Ans (if a19.toList = ([] : List UInt8) then (some (a18 == 0)) else (some false)) (a19.toList = ([] : List UInt8) ∧ a18 = 0) := Ans.ite (fun _ => Ans.beq _ _) rfl
  by_cases c4 : a7 = 4
  · rw [if_pos c4]
    obtain ⟨b, e, hb⟩ := in_ans a8 1 4
    rw [e, Option.bind_some, if_neg (by omega)]
    obtain ⟨d, e2, hd⟩ := bare
    cases b with
    | true =>
      rw [if_pos rfl]
      refine ⟨d, e2, hd.trans ?_⟩
      have := hb.mp rfl
      unfold StP
      rw [empty_iff]
      omega
    | false =>
      rw [if_neg (by decide)]
      refine ⟨false, rfl, fun hc => (by cases hc), fun hc => ?_⟩
      have : ¬ (1 ≤ a8 ∧ a8 ≤ 4) := fun hh => by have := hb.mpr hh; cases this
      unfold StP at hc
      omega
  · rw [if_neg c4]
    by_cases c3 : a7 = 3
    · rw [if_pos c3]
      refine Ans.iff (Ans.ite (fun _ => Ans.last (sum_ans a19 h)) rfl) ?_
      unfold StP
      constructor
      · intro hh; exact ⟨⟨h7, h75⟩, Or.inr (Or.inl ⟨c3, hh.1, hh.2⟩)⟩
      · rintro ⟨_, hh | hh | hh⟩
        · omega
        · exact hh.2
        · omega
    · rw [if_neg c3]
      refine Ans.iff (Ans.ite (fun _ => bare) rfl) ?_
      unfold StP
      rw [empty_iff]
      omega
theorem state_ans (k : Nat) (a0 a1 : Int) (a2 a3 a4 : ByteArray) (a5 a6 a7 a8 : Int) (a9 : Bool) (a10 a11 a12 : Int) (a13 : ByteArray) (a14 a15 : Int) (a16 : ByteArray) (a17 a18 : Int) (a19 : ByteArray) (h : a19.size ≤ 140737488351232) :
    Ans (rows_state.f (k + 1) a0 a1 a2 a3 a4 a5 a6 a7 a8 a9 a10 a11 a12 a13 a14 a15 a16 a17 a18 a19) (StP a7 a8 a18 a19) := by
  unfold rows_state.f
  have bad : rows_state.j0 (k + 1) true a0 a1 a2 a3 a4 a5 a6 a7 a8 a9 a10 a11 a12 a13 a14 a15 a16 a17 a18 a19 = some false := by
    simp only [rows_state.j0]
    rw [if_pos trivial]
  by_cases c : a7 < 1
  · rw [if_pos c, bad]
    refine ⟨false, rfl, fun hc => (by cases hc), fun hc => ?_⟩
    unfold StP at hc
    omega
  · rw [if_neg c]
    by_cases d : a7 > 5
    · rw [decide_eq_true d, bad]
      refine ⟨false, rfl, fun hc => (by cases hc), fun hc => ?_⟩
      unfold StP at hc
      omega
    · rw [decide_eq_false d]
      exact state_j0 k a0 a1 a2 a3 a4 a5 a6 a7 a8 a9 a10 a11 a12 a13 a14 a15 a16 a17 a18 a19 h (by omega) (by omega)
def FetchP (a11 a12 : Int) (a13 : ByteArray) (a14 a15 : Int) (a16 : ByteArray) (a17 a18 : Int) : Prop := (0 ≤ a11 ∧ a11 ≤ 1048576) ∧ (0 ≤ a12 ∧ a12 ≤ 1099511627776) ∧ (a13.size : Int) ≤ 200 ∧ (0 ≤ a14 ∧ a14 ≤ 3) ∧ (0 ≤ a15 ∧ a15 ≤ 1048576) ∧ (a16.size : Int) ≤ 200 ∧ (-1 ≤ a17 ∧ a17 ≤ 1099511627776) ∧ (0 ≤ a18 ∧ a18 ≤ 65536)
theorem fetch_ans (a0 a1 : Int) (a2 a3 a4 : ByteArray) (a5 a6 a7 a8 : Int) (a9 : Bool) (a10 a11 a12 : Int) (a13 : ByteArray) (a14 a15 : Int) (a16 : ByteArray) (a17 a18 : Int) (a19 : ByteArray) :
    Ans (rows_fetch.f a0 a1 a2 a3 a4 a5 a6 a7 a8 a9 a10 a11 a12 a13 a14 a15 a16 a17 a18 a19) (FetchP a11 a12 a13 a14 a15 a16 a17 a18) :=
  Ans.and (times_ans _) (Ans.and (is_ans _) (Ans.and (few_ans _) (Ans.and (in_ans _ _ _) (Ans.and (times_ans _) (Ans.and (few_ans _) (Ans.and (in_ans _ _ _) (Ans.last (in_ans _ _ _)) rfl) rfl) rfl) rfl) rfl) rfl) rfl
def EpP (a0 a1 : Int) (a2 a3 a4 : ByteArray) (a5 a6 a7 a8 a10 a11 a12 : Int) (a13 : ByteArray) (a14 a15 : Int) (a16 : ByteArray) (a17 a18 : Int) (a19 : ByteArray) : Prop :=
  (1 ≤ a0 ∧ a0 ≤ 1048576) ∧ (1 ≤ a1 ∧ a1 ≤ 1048576) ∧ (1 ≤ (a2.size : Int) ∧ (a2.size : Int) ≤ 200) ∧ (1 ≤ (a3.size : Int) ∧ (a3.size : Int) ≤ 200) ∧ (a4.size : Int) ≤ 200 ∧ (-1099511627776 ≤ a5 ∧ a5 ≤ 1099511627776) ∧ (-1 ≤ a6 ∧ a6 ≤ 1099511627776) ∧ (0 ≤ a10 ∧ a10 ≤ 1099511627776) ∧ FetchP a11 a12 a13 a14 a15 a16 a17 a18 ∧ StP a7 a8 a18 a19
theorem ep_ans (k : Nat) (a0 a1 : Int) (a2 a3 a4 : ByteArray) (a5 a6 a7 a8 : Int) (a9 : Bool) (a10 a11 a12 : Int) (a13 : ByteArray) (a14 a15 : Int) (a16 : ByteArray) (a17 a18 : Int) (a19 : ByteArray) (h : a19.size ≤ 140737488351232) :
    Ans (rows_EpRight.f (k + 2) a0 a1 a2 a3 a4 a5 a6 a7 a8 a9 a10 a11 a12 a13 a14 a15 a16 a17 a18 a19) (EpP a0 a1 a2 a3 a4 a5 a6 a7 a8 a10 a11 a12 a13 a14 a15 a16 a17 a18 a19) := by
  have bad : rows_EpRight.j0 (k + 2) true a0 a1 a2 a3 a4 a5 a6 a7 a8 a9 a10 a11 a12 a13 a14 a15 a16 a17 a18 a19 = some false := by
    simp only [rows_EpRight.j0]
    rw [if_pos trivial]
  have good : Ans (rows_EpRight.j0 (k + 2) false a0 a1 a2 a3 a4 a5 a6 a7 a8 a9 a10 a11 a12 a13 a14 a15 a16 a17 a18 a19) ((-1099511627776 ≤ a5 ∧ a5 ≤ 1099511627776) ∧ (-1 ≤ a6 ∧ a6 ≤ 1099511627776) ∧ (0 ≤ a10 ∧ a10 ≤ 1099511627776) ∧ FetchP a11 a12 a13 a14 a15 a16 a17 a18 ∧ StP a7 a8 a18 a19) := by
    simp only [rows_EpRight.j0]
    rw [if_neg (by decide)]
    exact Ans.and (in_ans _ _ _) (Ans.and (in_ans _ _ _) (Ans.and (is_ans _) (Ans.and (fetch_ans a0 a1 a2 a3 a4 a5 a6 a7 a8 a9 a10 a11 a12 a13 a14 a15 a16 a17 a18 a19) (Ans.last (state_ans k a0 a1 a2 a3 a4 a5 a6 a7 a8 a9 a10 a11 a12 a13 a14 a15 a16 a17 a18 a19 h)) rfl) rfl) rfl) rfl
  unfold rows_EpRight.f
  exact Ans.and (id_ans _) (Ans.and (id_ans _) (Ans.and (some_ans _) (Ans.and (some_ans _) (Ans.not (F := fun b => rows_EpRight.j0 (k + 2) b a0 a1 a2 a3 a4 a5 a6 a7 a8 a9 a10 a11 a12 a13 a14 a15 a16 a17 a18 a19) (few_ans _) bad good) bad) bad) bad) bad

/-! ### rows: which feeds and episodes are right, for the reference -/
theorem count_ans (a lo : Int) : Ans (newsreelref14_Count.f a lo) (lo ≤ a ∧ a ≤ 1048576) := by
  unfold newsreelref14_Count.f
  exact Ans.ite (fun _ => Ans.dec _) rfl
theorem long_ans (a : ByteArray) (lo : Int) : Ans (newsreelref14_Long.f a lo) (lo ≤ (a.size : Int) ∧ (a.size : Int) ≤ 200) := by
  unfold newsreelref14_Long.f
  exact Ans.ite (fun _ => Ans.dec _) rfl
theorem size_ans (a : Int) : Ans (newsreelref01_Size.f a) (0 ≤ a ∧ a ≤ 1099511627776) := by
  unfold newsreelref01_Size.f
  exact Ans.ite (fun _ => Ans.dec _) rfl
theorem reffeed_ans (a0 : Int) (a1 a2 : ByteArray) (a3 a4 : Int) : Ans (newsreelref14_FeedRight.f a0 a1 a2 a3 a4) (FeedP a0 a1 a2 a3 a4) := by
  refine Ans.iff (Ans.and (count_ans _ _) (Ans.and (long_ans _ _) (Ans.and (long_ans _ _) (Ans.and (size_ans _) (Ans.last (count_ans _ _)) rfl) rfl) rfl) rfl) ?_
  unfold FeedP
  omega
theorem digits_l {a : List Int} (ha : Bs a) (hn : a.length ≤ 10000) : ∀ (t p : List Int) (k : Nat), a = p ++ t → t.length < k → newsreelref14_digits.l0 k (strOfNums a) (p.length : Int) = some (t.all hexC && decide (a.length = 64)) := by
  intro t
  induction t with
  | nil =>
    intro p k e hk
    obtain ⟨k, rfl⟩ : ∃ m, k = m + 1 := ⟨k - 1, by omega⟩
    have hlen : a.length = p.length := by rw [e, List.append_nil]
    simp only [newsreelref14_digits.l0]
    rw [nums_size, if_neg (by omega)]
    congr 1
    rw [List.all_nil, Bool.true_and]
    by_cases h : a.length = 64
    · rw [decide_eq_true h]; exact beq_iff_eq.mpr (by omega)
    · rw [decide_eq_false h]; exact beq_eq_false_iff_ne.mpr (by omega)
  | cons x t ih =>
    intro p k e hk
    obtain ⟨k, rfl⟩ : ∃ m, k = m + 1 := ⟨k - 1, by omega⟩
    have hlen : a.length = p.length + (t.length + 1) := by rw [e]; simp
    have hc : rd a (p.length : Int) = x := by rw [e]; exact rd_app p t x
    have hi := ih (p ++ [x]) k (by simpa using e) (by simp at hk; omega)
    rw [show (((p ++ [x]).length : Nat) : Int) = (p.length : Int) + 1 by simp] at hi
    simp only [newsreelref14_digits.l0]
    rw [nums_size, if_pos (by omega), if_pos (by omega), nums_bt ha, hc, w64 (by omega) (by omega), hi, List.all_cons, hexC]
    by_cases h1 : x ≥ 48
    · rw [if_pos h1]
      by_cases h2 : x ≤ 57
      · rw [if_pos h2, decide_eq_true (show 48 ≤ x ∧ x ≤ 57 ∨ 97 ≤ x ∧ x ≤ 102 by omega), Bool.true_and]
      · rw [if_neg h2]
        by_cases h3 : x ≥ 97
        · rw [if_pos h3]
          by_cases h4 : x ≤ 102
          · rw [if_pos h4, decide_eq_true (show 48 ≤ x ∧ x ≤ 57 ∨ 97 ≤ x ∧ x ≤ 102 by omega), Bool.true_and]
          · rw [if_neg h4, decide_eq_false (show ¬ (48 ≤ x ∧ x ≤ 57 ∨ 97 ≤ x ∧ x ≤ 102) by omega), Bool.false_and, Bool.false_and]
        · rw [if_neg h3, decide_eq_false (show ¬ (48 ≤ x ∧ x ≤ 57 ∨ 97 ≤ x ∧ x ≤ 102) by omega), Bool.false_and, Bool.false_and]
    · rw [if_neg h1]
      by_cases h3 : x ≥ 97
      · omega
      · rw [if_neg h3, decide_eq_false (show ¬ (48 ≤ x ∧ x ≤ 57 ∨ 97 ≤ x ∧ x ≤ 102) by omega), Bool.false_and, Bool.false_and]
theorem digits_ans {k : Nat} (hk : 20000 < k) (a : ByteArray) (h : a.size ≤ 10000) : Ans (newsreelref14_digits.f k a) (SumP a) := by
  have := digits_l (Bs.of a) (by rw [← size_list]; exact h) (bytesOf a) [] k rfl (by rw [← size_list]; omega)
  rw [nums_bytesOf] at this
  unfold newsreelref14_digits.f
  refine ⟨_, this, ?_⟩
  unfold SumP
  rw [Bool.and_eq_true, decide_eq_true_eq, size_list]
  exact And.comm
theorem ref_j2 {k : Nat} (hk : 20000 < k) (a0 a1 : Int) (a2 a3 a4 : ByteArray) (a5 a6 a7 a8 : Int) (a9 : Bool) (a10 a11 a12 : Int) (a13 : ByteArray) (a14 a15 : Int) (a16 : ByteArray) (a17 a18 : Int) (a19 : ByteArray) (h : a19.size ≤ 10000) :
    Ans (newsreelref14_EpRight.j2 (k + 1) false a0 a1 a2 a3 a4 a5 a6 a7 a8 a9 a10 a11 a12 a13 a14 a15 a16 a17 a18 a19) (StP a7 a8 a18 a19) := by
  simp only [newsreelref14_EpRight.j2]
  rw [if_neg (by decide)]
  have bare : Ans (if a19.toList = ([] : List UInt8) then (some (a18 == 0)) else (some false)) (a19.size = 0 ∧ a18 = 0) := Ans.iff (Ans.ite (fun _ => Ans.beq _ _) rfl) (by rw [empty_iff])
  by_cases c4 : a7 = 4
  · rw [if_pos c4]
    refine Ans.iff (Ans.ite (fun _ => Ans.ite (fun _ => bare) rfl) rfl) ?_
    unfold StP
    omega
  · rw [if_neg c4]
    by_cases c3 : a7 = 3
    · rw [if_pos c3]
      refine Ans.iff (Ans.ite (fun _ => Ans.last (digits_ans hk a19 h)) rfl) ?_
      unfold StP
      constructor
      · intro hh; exact ⟨by omega, Or.inr (Or.inl ⟨c3, hh.1, hh.2⟩)⟩
      · rintro ⟨_, hh | hh | hh⟩
        · omega
        · exact hh.2
        · omega
    · rw [if_neg c3]
      refine Ans.iff (Ans.ite (fun _ => Ans.ite (fun _ => Ans.ite (fun _ => bare) rfl) rfl) rfl) ?_
      unfold StP
      omega
theorem refep_ans {k : Nat} (hk : 20000 < k) (a0 a1 : Int) (a2 a3 a4 : ByteArray) (a5 a6 a7 a8 : Int) (a9 : Bool) (a10 a11 a12 : Int) (a13 : ByteArray) (a14 a15 : Int) (a16 : ByteArray) (a17 a18 : Int) (a19 : ByteArray) (h : a19.size ≤ 10000) :
    Ans (newsreelref14_EpRight.f (k + 3) a0 a1 a2 a3 a4 a5 a6 a7 a8 a9 a10 a11 a12 a13 a14 a15 a16 a17 a18 a19) (EpP a0 a1 a2 a3 a4 a5 a6 a7 a8 a10 a11 a12 a13 a14 a15 a16 a17 a18 a19) := by
  have bad2 : newsreelref14_EpRight.j2 (k + 1) true a0 a1 a2 a3 a4 a5 a6 a7 a8 a9 a10 a11 a12 a13 a14 a15 a16 a17 a18 a19 = some false := by
    simp only [newsreelref14_EpRight.j2]
    rw [if_pos trivial]
  have bad1 : newsreelref14_EpRight.j1 (k + 2) true a0 a1 a2 a3 a4 a5 a6 a7 a8 a9 a10 a11 a12 a13 a14 a15 a16 a17 a18 a19 = some false := by
    simp only [newsreelref14_EpRight.j1]
    rw [if_pos trivial]
  have bad0 : newsreelref14_EpRight.j0 (k + 3) true a0 a1 a2 a3 a4 a5 a6 a7 a8 a9 a10 a11 a12 a13 a14 a15 a16 a17 a18 a19 = some false := by
    simp only [newsreelref14_EpRight.j0]
    rw [if_pos trivial]
  have good1 : Ans (newsreelref14_EpRight.j1 (k + 2) false a0 a1 a2 a3 a4 a5 a6 a7 a8 a9 a10 a11 a12 a13 a14 a15 a16 a17 a18 a19) ((0 ≤ a10 ∧ a10 ≤ 1099511627776) ∧ (0 ≤ a12 ∧ a12 ≤ 1099511627776) ∧ (0 ≤ a11 ∧ a11 ≤ 1048576) ∧ (0 ≤ a15 ∧ a15 ≤ 1048576) ∧ ¬ a14 < 0 ∧ ¬ a14 > 3 ∧ ¬ a18 < 0 ∧ ¬ a18 > 65536 ∧ StP a7 a8 a18 a19) := by
    simp only [newsreelref14_EpRight.j1]
    rw [if_neg (by decide)]
    exact Ans.and (size_ans _) (Ans.and (size_ans _) (Ans.and (count_ans _ _) (Ans.and (count_ans _ _) (Ans.unless bad2 (fun _ => Ans.unless bad2 (fun _ => Ans.unless bad2 (fun _ => Ans.ofdec (F := fun b => newsreelref14_EpRight.j2 (k + 1) b a0 a1 a2 a3 a4 a5 a6 a7 a8 a9 a10 a11 a12 a13 a14 a15 a16 a17 a18 a19) bad2 (ref_j2 hk a0 a1 a2 a3 a4 a5 a6 a7 a8 a9 a10 a11 a12 a13 a14 a15 a16 a17 a18 a19 h))))) bad2) bad2) bad2) bad2
  have good0 : Ans (newsreelref14_EpRight.j0 (k + 3) false a0 a1 a2 a3 a4 a5 a6 a7 a8 a9 a10 a11 a12 a13 a14 a15 a16 a17 a18 a19) (¬ a5 < (-1099511627776) ∧ ¬ a5 > 1099511627776 ∧ ¬ a6 < (-1) ∧ ¬ a6 > 1099511627776 ∧ ¬ a17 < (-1) ∧ ¬ a17 > 1099511627776 ∧ ((0 ≤ a10 ∧ a10 ≤ 1099511627776) ∧ (0 ≤ a12 ∧ a12 ≤ 1099511627776) ∧ (0 ≤ a11 ∧ a11 ≤ 1048576) ∧ (0 ≤ a15 ∧ a15 ≤ 1048576) ∧ ¬ a14 < 0 ∧ ¬ a14 > 3 ∧ ¬ a18 < 0 ∧ ¬ a18 > 65536 ∧ StP a7 a8 a18 a19)) := by
    simp only [newsreelref14_EpRight.j0]
    rw [if_neg (by decide)]
    exact Ans.unless bad1 (fun _ => Ans.unless bad1 (fun _ => Ans.unless bad1 (fun _ => Ans.unless bad1 (fun _ => Ans.unless bad1 (fun _ => Ans.ofdec (F := fun b => newsreelref14_EpRight.j1 (k + 2) b a0 a1 a2 a3 a4 a5 a6 a7 a8 a9 a10 a11 a12 a13 a14 a15 a16 a17 a18 a19) bad1 good1)))))
  unfold newsreelref14_EpRight.f
  refine Ans.iff (Ans.and (count_ans _ _) (Ans.and (count_ans _ _) (Ans.and (long_ans _ _) (Ans.and (long_ans _ _) (Ans.and (long_ans _ _) (Ans.and (long_ans _ _) (Ans.not (F := fun b => newsreelref14_EpRight.j0 (k + 3) b a0 a1 a2 a3 a4 a5 a6 a7 a8 a9 a10 a11 a12 a13 a14 a15 a16 a17 a18 a19) (long_ans _ _) bad0 good0) bad0) bad0) bad0) bad0) bad0) bad0) ?_
  unfold EpP FetchP
  generalize StP a7 a8 a18 a19 = st
  constructor
  · rintro ⟨h1, h2, h3, h4, h5, h6, h7, h8, h9, h10, h11, h12, h13, h14, h15, h16, h17, h18, h19, h20, h21, h22⟩
    exact ⟨h1, h2, h3, h4, h5.2, ⟨by omega, by omega⟩, ⟨by omega, by omega⟩, h14, ⟨h16, h15, h6.2, ⟨by omega, by omega⟩, h17, h7.2, ⟨by omega, by omega⟩, ⟨by omega, by omega⟩⟩, h22⟩
  · rintro ⟨h1, h2, h3, h4, h5, h6, h7, h8, ⟨f1, f2, f3, f4, f5, f6, f7, f8⟩, hs⟩
    exact ⟨h1, h2, h3, h4, ⟨by omega, h5⟩, ⟨by omega, f3⟩, ⟨by omega, f6⟩, by omega, by omega, by omega, by omega, by omega, by omega, h8, f2, f1, f5, by omega, by omega, by omega, by omega, hs⟩

/-! ### rows: the rows' values -/
theorem vsame_l {L : List S45} (hn : L.length ≤ 100000) : ∀ (t p : List S45) (k : Nat), L = p ++ t → t.length < k → newsreelref07_Same.l0 k L L (p.length : Int) = some true := by
  intro t
  induction t with
  | nil =>
    intro p k e hk
    obtain ⟨k, rfl⟩ : ∃ m, k = m + 1 := ⟨k - 1, by omega⟩
    simp only [newsreelref07_Same.l0]
    rw [if_neg (by rw [e]; simp)]
  | cons x t ih =>
    intro p k e hk
    obtain ⟨k, rfl⟩ : ∃ m, k = m + 1 := ⟨k - 1, by omega⟩
    have hlen : L.length = p.length + (t.length + 1) := by rw [e]; simp
    have hi := ih (p ++ [x]) k (by simpa using e) (by simp at hk; omega)
    rw [show (((p ++ [x]).length : Nat) : Int) = (p.length : Int) + 1 by simp] at hi
    simp only [newsreelref07_Same.l0]
    rw [if_pos (by omega), if_pos (by omega), if_pos (by omega), w64 (by omega) (by omega), hi, if_neg (by simp)]
theorem vsame_eq {k : Nat} {L : List S45} (hn : L.length ≤ 10000) (hk : 100000 < k) : newsreelref07_Same.f k L L = some true := by
  unfold newsreelref07_Same.f
  rw [if_pos rfl]
  exact vsame_l (by omega) L [] k rfl (by omega)
theorem putfeed_eq {a0 : Int} {a1 a2 : ByteArray} {a3 a4 : Int} {b : Bool} (h : rows_FeedRight.f a0 a1 a2 a3 a4 = some b) : ∃ L, newsreelref14_Feed.f a0 a1 a2 a3 a4 = some L ∧ L.length ≤ 100 ∧ rows_PutFeed.f a0 a1 a2 a3 a4 = some (if b = true then (L, 0) else ([], 1)) := by
  unfold newsreelref14_Feed.f rows_PutFeed.f
  simp only [newsreelref14_t.f, newsreelref14_n.f, code_Text.f, code_Num.f, Option.bind_some]
  rw [h]
  refine ⟨_, rfl, by simp, ?_⟩
  cases b
  · rfl
  · rfl
theorem putep_eq {k : Nat} {a0 a1 : Int} {a2 a3 a4 : ByteArray} {a5 a6 a7 a8 : Int} {a9 : Bool} {a10 a11 a12 : Int} {a13 : ByteArray} {a14 a15 : Int} {a16 : ByteArray} {a17 a18 : Int} {a19 : ByteArray} {b : Bool} (h : rows_EpRight.f (k + 1) a0 a1 a2 a3 a4 a5 a6 a7 a8 a9 a10 a11 a12 a13 a14 a15 a16 a17 a18 a19 = some b) :
    ∃ L, newsreelref14_Ep.f (k + 1) a0 a1 a2 a3 a4 a5 a6 a7 a8 a9 a10 a11 a12 a13 a14 a15 a16 a17 a18 a19 = some L ∧ L.length ≤ 100 ∧ rows_PutEp.f (k + 1) a0 a1 a2 a3 a4 a5 a6 a7 a8 a9 a10 a11 a12 a13 a14 a15 a16 a17 a18 a19 = some (if b = true then (L, 0) else ([], 1)) := by
  unfold newsreelref14_Ep.f rows_PutEp.f
  rw [h]
  simp only [newsreelref14_Ep.j0, rows_PutEp.j0, newsreelref14_t.f, newsreelref14_n.f, code_Text.f, code_Num.f, Option.bind_some]
  cases a9
  · refine ⟨_, rfl, by simp, ?_⟩
    cases b
    · rfl
    · rfl
  · refine ⟨_, rfl, by simp, ?_⟩
    cases b
    · rfl
    · rfl

theorem awake_eq {k : Nat} (hk : 400 ≤ k) : newsreellaw14_awake.f k = some true := at_rounds newsreellaw14_awake.mono hk (by kernel_rfl)
theorem RowsPut : newsreellaw14_RowsPut.Pure := by
  intro x y hx hy
  refine ⟨200004, ?_⟩
  have hlong : newsreellaw14_RowsPut.j0 200004 true x.f0 x.f1 x.f2 x.f3 x.f4 y.f0 y.f1 y.f2 y.f3 y.f4 y.f5 y.f6 y.f7 y.f8 y.f9 y.f10 y.f11 y.f12 y.f13 y.f14 y.f15 y.f16 y.f17 y.f18 y.f19 = some true := by
    simp only [newsreellaw14_RowsPut.j0]
    rw [if_pos trivial, awake_eq (by decide)]
    rfl
  unfold newsreellaw14_RowsPut.f
  obtain ⟨s1, g1⟩ : ∃ t, newsreelref14_Short.f x.f0 x.f1 x.f2 x.f3 x.f4 = some t := by
    unfold newsreelref14_Short.f
    split
    · exact ⟨_, rfl⟩
    · exact ⟨_, rfl⟩
  obtain ⟨s2, g2, i2⟩ : ∃ t, newsreelref14_ShortEp.f y.f0 y.f1 y.f2 y.f3 y.f4 y.f5 y.f6 y.f7 y.f8 y.f9 y.f10 y.f11 y.f12 y.f13 y.f14 y.f15 y.f16 y.f17 y.f18 y.f19 = some t ∧ (t = true → y.f19.size ≤ 400) := by
    unfold newsreelref14_ShortEp.f
    repeat' split
    all_goals exact ⟨_, rfl, fun h => by first | (have := of_decide_eq_true h; omega) | cases h⟩
  rw [g1, Option.bind_some]
  cases s1 with
  | false =>
    rw [if_neg (by decide)]
    exact hlong
  | true =>
    rw [if_pos rfl, g2, Option.bind_some]
    cases s2 with
    | false => exact hlong
    | true =>
      have l19 := i2 rfl
      obtain ⟨b1, e1, e2, _⟩ := Ans.same (feed_ans x.f0 x.f1 x.f2 x.f3 x.f4) (reffeed_ans x.f0 x.f1 x.f2 x.f3 x.f4)
      obtain ⟨b2, e3, e4, _⟩ := Ans.same (ep_ans 200001 y.f0 y.f1 y.f2 y.f3 y.f4 y.f5 y.f6 y.f7 y.f8 y.f9 y.f10 y.f11 y.f12 y.f13 y.f14 y.f15 y.f16 y.f17 y.f18 y.f19 (by omega)) (refep_ans (k := 200000) (by decide) y.f0 y.f1 y.f2 y.f3 y.f4 y.f5 y.f6 y.f7 y.f8 y.f9 y.f10 y.f11 y.f12 y.f13 y.f14 y.f15 y.f16 y.f17 y.f18 y.f19 (by omega))
      obtain ⟨F, f1, f2, f3⟩ := putfeed_eq e1
      obtain ⟨E, p1, p2, p3⟩ := putep_eq (k := 200002) e3
      have j1 : ∀ z, z = false → newsreellaw14_RowsPut.j1 200003 (if b1 = true then (F, (0 : Int)) else ([], 1)).1 (if b2 = true then (E, (0 : Int)) else ([], 1)).1 b1 b2 z x.f0 x.f1 x.f2 x.f3 x.f4 y.f0 y.f1 y.f2 y.f3 y.f4 y.f5 y.f6 y.f7 y.f8 y.f9 y.f10 y.f11 y.f12 y.f13 y.f14 y.f15 y.f16 y.f17 y.f18 y.f19 = some true := by
        intro z hz
        subst hz
        have q1 : newsreelref14_Ep.f 200002 y.f0 y.f1 y.f2 y.f3 y.f4 y.f5 y.f6 y.f7 y.f8 y.f9 y.f10 y.f11 y.f12 y.f13 y.f14 y.f15 y.f16 y.f17 y.f18 y.f19 = newsreelref14_Ep.f 200003 y.f0 y.f1 y.f2 y.f3 y.f4 y.f5 y.f6 y.f7 y.f8 y.f9 y.f10 y.f11 y.f12 y.f13 y.f14 y.f15 y.f16 y.f17 y.f18 y.f19 := by
          unfold newsreelref14_Ep.f
          simp only [newsreelref14_Ep.j0]
        have p1' : newsreelref14_Ep.f 200002 y.f0 y.f1 y.f2 y.f3 y.f4 y.f5 y.f6 y.f7 y.f8 y.f9 y.f10 y.f11 y.f12 y.f13 y.f14 y.f15 y.f16 y.f17 y.f18 y.f19 = some E := q1.trans p1
        simp only [newsreellaw14_RowsPut.j1]
        rw [if_neg (by decide), awake_eq (by decide)]
        cases b1 <;> cases b2
        · rfl
        · rw [if_neg (by decide), if_pos (by rfl), if_pos rfl, p1', Option.bind_some, if_pos rfl, vsame_eq (by first | (show F.length ≤ 10000; omega) | (show E.length ≤ 10000; omega)) (by decide)]
          rfl
        · rw [if_pos rfl, f1, Option.bind_some, if_pos rfl, vsame_eq (by first | (show F.length ≤ 10000; omega) | (show E.length ≤ 10000; omega)) (by decide), Option.bind_some, if_pos rfl]
          rfl
        · rw [if_pos rfl, f1, Option.bind_some, if_pos rfl, vsame_eq (by first | (show F.length ≤ 10000; omega) | (show E.length ≤ 10000; omega)) (by decide), Option.bind_some, if_pos rfl, if_pos rfl, p1', Option.bind_some, if_pos rfl, vsame_eq (by first | (show F.length ≤ 10000; omega) | (show E.length ≤ 10000; omega)) (by decide)]
          rfl
      show newsreellaw14_RowsPut.j0 (200003 + 1) false x.f0 x.f1 x.f2 x.f3 x.f4 y.f0 y.f1 y.f2 y.f3 y.f4 y.f5 y.f6 y.f7 y.f8 y.f9 y.f10 y.f11 y.f12 y.f13 y.f14 y.f15 y.f16 y.f17 y.f18 y.f19 = some true
      simp only [newsreellaw14_RowsPut.j0]
      rw [if_neg (by decide), f3, Option.bind_some, p3, Option.bind_some, e2, Option.bind_some, e4, Option.bind_some, e1, Option.bind_some, if_neg (by simp), e3, Option.bind_some, if_neg (by simp)]
      cases b1 <;> cases b2
      · exact j1 _ rfl
      · exact j1 _ rfl
      · exact j1 _ rfl
      · exact j1 _ rfl
end Go.Proofs.YtkakmncdmjgojaaDoor.Pure

