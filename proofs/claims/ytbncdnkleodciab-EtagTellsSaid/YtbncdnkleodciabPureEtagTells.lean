/- The law EtagTells is true for every input: which tags are right, a tag's text, a text's tag, and which texts' tags match, are what the reference says. No condition beyond the row's own. -/
import Derived.Test.YtbncdnkleodciabPEtagTellsx5
import Derived.Test.YtbncdnkleodciabStr
set_option linter.unusedVariables false
set_option linter.unusedSimpArgs false
namespace Go.Proofs.Ytbncdnkleodciab.Pure
open Go Go.RowKit Go.Proofs.Ytbncdnkleodciab.PEtagTells Go.Proofs.YtbncdnkleodciabW.PrintWords Go.Proofs.YtbncdnkleodciabW.PrintLast Go.Proofs.YtbncdnkleodciabW.PrintMore Go.Proofs.Ytbncdnkleodciab.Kit Go.Proofs.Ytbncdnkleodciab.Str

def cutPre (p a : List Int) : List Int × Bool := if a.take p.length = p then (a.drop p.length, true) else (a, false)
def cutSuf (p a : List Int) : List Int × Bool := if a.drop (a.length - p.length) = p then (a.take (a.length - p.length), true) else (a, false)
theorem cutPre_sub {p a : List Int} (h : Bs a) : Bs (cutPre p a).1 ∧ (cutPre p a).1.length ≤ a.length := by
  unfold cutPre
  split
  · exact ⟨h.drop _, by simp⟩
  · exact ⟨h, Nat.le_refl _⟩
theorem cutSuf_sub {p a : List Int} (h : Bs a) : Bs (cutSuf p a).1 ∧ (cutSuf p a).1.length ≤ a.length := by
  unfold cutSuf
  split
  · exact ⟨h.take _, by simp⟩
  · exact ⟨h, Nat.le_refl _⟩
theorem HasPrefix_eq {a p : List Int} (ha : Bs a) (hp : Bs p) : stringslite_HasPrefix.f (strOfNums a) (strOfNums p) = some (decide (a.take p.length = p)) := by
  unfold stringslite_HasPrefix.f
  rw [nums_size, nums_size]
  by_cases h : p.length ≤ a.length
  · rw [if_pos (by omega), if_pos (by omega), if_pos (by omega), nums_ext, Int.toNat_natCast, List.drop_zero, nums_beq (ha.take _) hp]
  · rw [if_neg (by omega), decide_eq_false]
    intro e
    have := congrArg List.length e
    simp at this
    omega
theorem CutPrefix_eq {a p : List Int} (ha : Bs a) (hp : Bs p) : strings_CutPrefix.f (strOfNums a) (strOfNums p) = some (strOfNums (cutPre p a).1, (cutPre p a).2) := by
  unfold strings_CutPrefix.f stringslite_CutPrefix.f cutPre
  rw [HasPrefix_eq ha hp, Option.bind_some, nums_size, nums_size]
  by_cases h : a.take p.length = p
  · have hl : p.length ≤ a.length := by
      have := congrArg List.length h
      simp at this
      omega
    rw [decide_eq_true h, if_pos rfl, if_pos (by omega), if_pos (by omega), nums_ext, Int.toNat_natCast, List.take_length, Option.bind_some, if_pos h]
  · rw [decide_eq_false h, if_neg (by decide), Option.bind_some, if_neg h]

theorem HasSuffix_eq {a p : List Int} (ha : Bs a) (hp : Bs p) (hn : a.length ≤ 140737488351232) : stringslite_HasSuffix.f (strOfNums a) (strOfNums p) = some (decide (a.drop (a.length - p.length) = p)) := by
  unfold stringslite_HasSuffix.f
  rw [nums_size, nums_size]
  by_cases h : p.length ≤ a.length
  · rw [if_pos (by omega), w64 (by omega) (by omega), if_pos (by omega), if_pos (by omega), nums_ext, show ((a.length : Int) - (p.length : Int)).toNat = a.length - p.length by omega, List.take_length, nums_beq (ha.drop _) hp]
  · rw [if_neg (by omega), decide_eq_false]
    intro e
    have := congrArg List.length e
    simp at this
    omega
theorem CutSuffix_eq {a p : List Int} (ha : Bs a) (hp : Bs p) (hn : a.length ≤ 140737488351232) : strings_CutSuffix.f (strOfNums a) (strOfNums p) = some (strOfNums (cutSuf p a).1, (cutSuf p a).2) := by
  unfold strings_CutSuffix.f stringslite_CutSuffix.f cutSuf
  rw [HasSuffix_eq ha hp hn, Option.bind_some, nums_size, nums_size]
  by_cases h : a.drop (a.length - p.length) = p
  · have hl : p.length ≤ a.length := by
      have := congrArg List.length h
      simp at this
      omega
    rw [decide_eq_true h, if_pos rfl, w64 (by omega) (by omega), if_pos (by omega), if_pos (by omega), nums_ext, show ((a.length : Int) - (p.length : Int)).toNat = a.length - p.length by omega, List.drop_zero, Option.bind_some, if_pos h]
  · rw [decide_eq_false h, if_neg (by decide), Option.bind_some, if_neg h]

def okB (c : Int) : Bool := !(decide (c ≤ 32 ∨ c = 34 ∨ c = 127))
def rightL (l : List Int) : Bool := l.all okB && decide (l.length ≤ 100)
theorem etag_Right_l {l : List Int} (hl : Bs l) (hn : l.length ≤ 140737488351232) (w : Bool) : ∀ (t p : List Int) (k : Nat), l = p ++ t → t.length < k →
    etag_Right.l0 k (l.length : Int) (p.length : Int) w (strOfNums l) = some (t.all okB && decide (l.length ≤ 100)) := by
  intro t
  induction t with
  | nil =>
    intro p k e hk
    obtain ⟨k, rfl⟩ : ∃ m, k = m + 1 := ⟨k - 1, by simp at hk; omega⟩
    have hlen : l.length = p.length := by rw [e, List.append_nil]
    simp only [etag_Right.l0]
    rw [nums_size, if_neg (by omega), List.all_nil, Bool.true_and]
    congr 1
    exact decide_eq_decide.mpr (by omega)
  | cons c t ih =>
    intro p k e hk
    obtain ⟨k, rfl⟩ : ∃ m, k = m + 1 := ⟨k - 1, by simp at hk; omega⟩
    have hlen : l.length = p.length + (t.length + 1) := by rw [e]; simp
    have hc : rd l (p.length : Int) = c := by rw [e]; exact rd_app p t c
    have hi := ih (p ++ [c]) k (by simpa using e) (by simp at hk; omega)
    have hcast : (((p ++ [c]).length : Nat) : Int) = (p.length : Int) + 1 := by simp
    rw [hcast] at hi
    simp only [etag_Right.l0]
    rw [nums_size, if_pos (by omega), if_pos (by omega), if_pos (by omega), nums_bt hl, hc, w64 (by omega) (by omega), List.all_cons]
    by_cases h : c ≤ 32 ∨ c = 34 ∨ c = 127
    · rw [show okB c = false by simp only [okB, decide_eq_true h]; rfl, Bool.false_and, Bool.false_and]
      by_cases h1 : c ≤ 32
      · rw [if_pos h1]
      · rw [if_neg h1]
        by_cases h2 : c = 34
        · rw [if_pos h2]
        · rw [if_neg h2, if_pos (by omega)]
    · rw [show okB c = true by simp only [okB, decide_eq_false h]; rfl, Bool.true_and, if_neg (by omega), if_neg (by omega), if_neg (by omega)]
      exact hi
theorem etag_Right_eq {k : Nat} {l : List Int} (hl : Bs l) (hn : l.length ≤ 140737488351232) (hk : l.length < k) (w : Bool) : etag_Right.f k w (strOfNums l) = some (rightL l) := by
  unfold etag_Right.f
  rw [nums_size]
  exact etag_Right_l hl hn w l [] k rfl hk
def putE (w : Bool) (l : List Int) : List Int × Int := if rightL l = true then ((if w = true then [87, 47] else []) ++ 34 :: (l ++ [34]), 0) else ([], 1)
theorem etag_Put_eq {k : Nat} {l : List Int} (hl : Bs l) (hn : l.length ≤ 100000) (hk : l.length < k) (w : Bool) : etag_Put.f k w (strOfNums l) = some (strOfNums (putE w l).1, (putE w l).2) := by
  unfold etag_Put.f putE
  rw [etag_Right_eq hl (by omega) hk, Option.bind_some, nums_size]
  by_cases h : rightL l = true
  · rw [if_pos h, if_pos h]
    cases w
    · rw [if_neg (by decide), if_pos (by omega), if_pos (by omega), if_pos (by omega), if_neg (by decide), show (⟨#[]⟩ : ByteArray) = strOfNums [] from rfl, show (⟨#[34]⟩ : ByteArray) = strOfNums [34] from rfl]
      simp only [← nums_app, List.append_assoc]
      rfl
    · rw [if_pos rfl, if_pos (by omega), if_pos (by omega), if_pos (by omega), if_pos rfl, show (⟨#[87, 47]⟩ : ByteArray) = strOfNums [87, 47] from rfl, show (⟨#[34]⟩ : ByteArray) = strOfNums [34] from rfl]
      simp only [← nums_app, List.append_assoc]
      rfl
  · rw [if_neg h, if_neg h]; rfl
def getE (l : List Int) : Bool × List Int × Int :=
  if (cutPre [34] (cutPre [87, 47] l).1).2 = true ∧ (cutSuf [34] (cutPre [34] (cutPre [87, 47] l).1).1).2 = true ∧ rightL (cutSuf [34] (cutPre [34] (cutPre [87, 47] l).1).1).1 = true then
    ((cutPre [87, 47] l).2, (cutSuf [34] (cutPre [34] (cutPre [87, 47] l).1).1).1, 0) else (false, [], 2)
theorem etag_Get_eq {k : Nat} {l : List Int} (hl : Bs l) (hn : l.length ≤ 100000) (hk : l.length < k) : etag_Get.f k (strOfNums l) = some ((getE l).1, strOfNums (getE l).2.1, (getE l).2.2) := by
  obtain ⟨b1, l1⟩ := cutPre_sub (p := [87, 47]) hl
  obtain ⟨b2, l2⟩ := cutPre_sub (p := [34]) b1
  obtain ⟨b3, l3⟩ := cutSuf_sub (p := [34]) b2
  have q : Bs [34] := Bs.dec (by decide)
  unfold etag_Get.f getE
  rw [show (⟨#[87, 47]⟩ : ByteArray) = strOfNums [87, 47] from rfl, show (⟨#[34]⟩ : ByteArray) = strOfNums [34] from rfl, CutPrefix_eq hl (Bs.dec (by decide)), Option.bind_some]
  simp only
  rw [CutPrefix_eq b1 q, Option.bind_some]
  simp only
  rw [CutSuffix_eq b2 q (by omega), Option.bind_some]
  simp only
  rw [etag_Right_eq b3 (by omega) (by omega), Option.bind_some]
  by_cases h1 : (cutPre [34] (cutPre [87, 47] l).1).2 = true
  · rw [if_pos h1]
    by_cases h2 : (cutSuf [34] (cutPre [34] (cutPre [87, 47] l).1).1).2 = true
    · rw [if_pos h2]
      by_cases h3 : rightL (cutSuf [34] (cutPre [34] (cutPre [87, 47] l).1).1).1 = true
      · rw [if_pos h3, if_pos ⟨h1, h2, h3⟩]
      · rw [if_neg h3, if_neg (fun h => h3 h.2.2)]; rfl
    · rw [if_neg h2, if_neg (fun h => h2 h.2.1)]; rfl
  · rw [if_neg h1, if_neg (fun h => h1 h.1)]; rfl
theorem getE_sub {l : List Int} (h : Bs l) : Bs (getE l).2.1 ∧ (getE l).2.1.length ≤ l.length := by
  obtain ⟨b1, l1⟩ := cutPre_sub (p := [87, 47]) h
  obtain ⟨b2, l2⟩ := cutPre_sub (p := [34]) b1
  obtain ⟨b3, l3⟩ := cutSuf_sub (p := [34]) b2
  unfold getE
  split
  · exact ⟨b3, by simp only; omega⟩
  · exact ⟨Bs.nil, by simp⟩
theorem cutPre_inv {p a : List Int} (h : (cutPre p a).2 = true) : a = p ++ (cutPre p a).1 := by
  unfold cutPre at h ⊢
  split at h
  · rename_i h1
    rw [if_pos h1]
    simp only
    conv => lhs; rw [← List.take_append_drop p.length a, h1]
  · cases h
theorem cutSuf_inv {p a : List Int} (h : (cutSuf p a).2 = true) : a = (cutSuf p a).1 ++ p := by
  unfold cutSuf at h ⊢
  split at h
  · rename_i h1
    rw [if_pos h1]
    simp only
    conv => lhs; rw [← List.take_append_drop (a.length - p.length) a, h1]
  · cases h
theorem cutPre_app (p b : List Int) : cutPre p (p ++ b) = (b, true) := by
  unfold cutPre
  rw [if_pos (by simp), List.drop_left' rfl]
theorem cutSuf_app (p b : List Int) : cutSuf p (b ++ p) = (b, true) := by
  unfold cutSuf
  have e : (b ++ p).length - p.length = b.length := by simp
  rw [e, if_pos (by rw [List.drop_left' rfl]), List.take_left' rfl]
theorem getE_iff {l t : List Int} {w : Bool} : getE l = (w, t, 0) ↔ rightL t = true ∧ l = (if w = true then [87, 47] else []) ++ 34 :: (t ++ [34]) := by
  constructor
  · intro h
    unfold getE at h
    split at h
    · rename_i hc
      obtain ⟨h1, h2, h3⟩ := hc
      cases h
      refine ⟨h3, ?_⟩
      have e1 := cutPre_inv h1
      have e2 := cutSuf_inv h2
      have e12 : (cutPre [87, 47] l).1 = 34 :: ((cutSuf [34] (cutPre [34] (cutPre [87, 47] l).1).1).1 ++ [34]) := by rw [← e2]; exact e1
      rw [← e12]
      by_cases hw : (cutPre [87, 47] l).2 = true
      · rw [if_pos hw]; exact cutPre_inv hw
      · rw [if_neg hw]
        unfold cutPre at hw ⊢
        split
        · rename_i h4; rw [if_pos h4] at hw; exact absurd rfl hw
        · rfl
    · cases h
  · rintro ⟨hr, rfl⟩
    have go : ∀ w', getE ((if w = true then [87, 47] else []) ++ 34 :: (t ++ [34])) = getE ((if w = true then [87, 47] else []) ++ 34 :: (t ++ [34])) → cutPre [87, 47] ((if w = true then [87, 47] else []) ++ 34 :: (t ++ [34])) = (34 :: (t ++ [34]), w') → getE ((if w = true then [87, 47] else []) ++ 34 :: (t ++ [34])) = (w', t, 0) := by
      intro w' _ h
      unfold getE
      rw [h]
      simp only
      have e1 : cutPre [34] (34 :: (t ++ [34])) = (t ++ [34], true) := cutPre_app [34] _
      rw [e1]
      simp only
      rw [cutSuf_app]
      simp only
      rw [if_pos ⟨trivial, trivial, hr⟩]
    cases w
    · refine go false rfl ?_
      rw [if_neg (by decide), List.nil_append]
      unfold cutPre
      rw [if_neg]
      intro e
      simp at e
    · refine go true rfl ?_
      rw [if_pos rfl]
      exact cutPre_app [87, 47] _
theorem getE_bad (l : List Int) : (getE l).2.2 = 0 ∨ getE l = (false, [], 2) := by
  unfold getE
  split
  · exact Or.inl rfl
  · exact Or.inr rfl
def strongE (a b : List Int) : Bool := decide ((getE a).2.2 = 0) && (decide ((getE b).2.2 = 0) && (!(getE a).1 && ((getE a).1 == (getE b).1 && decide ((getE a).2.1 = (getE b).2.1))))
def weakE (a b : List Int) : Bool := decide ((getE a).2.2 = 0) && (decide ((getE b).2.2 = 0) && decide ((getE a).2.1 = (getE b).2.1))
theorem etag_both_eq {k : Nat} {a b : List Int} (ha : Bs a) (hb : Bs b) (hn : a.length ≤ 100000) (hm : b.length ≤ 100000) (hk : a.length < k) (hk' : b.length < k) :
    etag_both.f k (strOfNums a) (strOfNums b) = some ((getE a).1, strOfNums (getE a).2.1, (getE b).1, strOfNums (getE b).2.1, decide ((getE a).2.2 = 0) && decide ((getE b).2.2 = 0)) := by
  unfold etag_both.f
  rw [etag_Get_eq ha hn hk, Option.bind_some, etag_Get_eq hb hm hk', Option.bind_some]
  simp only
  by_cases h : (getE a).2.2 = 0
  · rw [if_pos h, decide_eq_true h, Bool.true_and]
    rfl
  · rw [if_neg h, decide_eq_false h, Bool.false_and]
theorem etag_Strong_eq {k : Nat} {a b : List Int} (ha : Bs a) (hb : Bs b) (hn : a.length ≤ 100000) (hm : b.length ≤ 100000) (hk : a.length < k) (hk' : b.length < k) : etag_Strong.f k (strOfNums a) (strOfNums b) = some (strongE a b) := by
  unfold etag_Strong.f strongE
  rw [etag_both_eq ha hb hn hm hk hk', Option.bind_some]
  simp only
  rw [nums_beq (getE_sub ha).1 (getE_sub hb).1]
  cases decide ((getE a).2.2 = 0) <;> cases decide ((getE b).2.2 = 0) <;> cases (getE a).1 <;> simp
theorem etag_Weak_eq {k : Nat} {a b : List Int} (ha : Bs a) (hb : Bs b) (hn : a.length ≤ 100000) (hm : b.length ≤ 100000) (hk : a.length < k) (hk' : b.length < k) : etag_Weak.f k (strOfNums a) (strOfNums b) = some (weakE a b) := by
  unfold etag_Weak.f weakE
  rw [etag_both_eq ha hb hn hm hk hk', Option.bind_some]
  simp only
  rw [nums_beq (getE_sub ha).1 (getE_sub hb).1]
  cases decide ((getE a).2.2 = 0) <;> cases decide ((getE b).2.2 = 0) <;> simp
theorem weak_sym (a b : List Int) : weakE a b = weakE b a := by
  unfold weakE
  rw [show decide ((getE a).2.1 = (getE b).2.1) = decide ((getE b).2.1 = (getE a).2.1) from decide_eq_decide.mpr ⟨Eq.symm, Eq.symm⟩, ← Bool.and_assoc, ← Bool.and_assoc, Bool.and_comm (decide ((getE a).2.2 = 0))]
theorem strong_sym (a b : List Int) : strongE a b = strongE b a := by
  unfold strongE
  rw [show decide ((getE a).2.1 = (getE b).2.1) = decide ((getE b).2.1 = (getE a).2.1) from decide_eq_decide.mpr ⟨Eq.symm, Eq.symm⟩]
  cases decide ((getE a).2.2 = 0) <;> cases decide ((getE b).2.2 = 0) <;> cases (getE a).1 <;> cases (getE b).1 <;> simp
theorem strong_same {a b : List Int} (h : strongE a b = true) : a = b ∧ weakE a b = true := by
  unfold strongE at h
  simp only [Bool.and_eq_true, decide_eq_true_eq, Bool.not_eq_true', beq_iff_eq] at h
  obtain ⟨h1, h2, h3, h4, h5⟩ := h
  obtain ⟨_, ea⟩ := getE_iff.mp (show getE a = ((getE a).1, (getE a).2.1, 0) by rw [← h1])
  obtain ⟨_, eb⟩ := getE_iff.mp (show getE b = ((getE b).1, (getE b).2.1, 0) by rw [← h2])
  refine ⟨by rw [ea, eb, h4, h5], ?_⟩
  unfold weakE
  rw [decide_eq_true h1, decide_eq_true h2, decide_eq_true h5]
  rfl
theorem putE_sub (w : Bool) {l : List Int} (h : Bs l) : Bs (putE w l).1 ∧ (putE w l).1.length ≤ l.length + 4 := by
  unfold putE
  split
  · refine ⟨Bs.app ?_ (Bs.cons (by decide) (h.app (Bs.dec (by decide)))), ?_⟩
    · split
      · exact Bs.dec (by decide)
      · exact Bs.nil
    · cases w <;> simp
  · exact ⟨Bs.nil, by simp⟩

theorem nums_beql {l : List Int} (hl : Bs l) (m : List UInt8) : ((strOfNums l).toList == m) = decide (l = m.map fun b => (b.toNat : Int)) := by
  by_cases h : l = m.map fun b => (b.toNat : Int)
  · rw [decide_eq_true h, beq_iff_eq]
    exact (nums_lit hl m).mpr h
  · rw [decide_eq_false h, beq_eq_false_iff_ne]
    exact fun e => h ((nums_lit hl m).mp e)
theorem ref27_Right_l {l : List Int} (hl : Bs l) (hn : l.length ≤ 140737488351232) (w : Bool) : ∀ (t p : List Int) (k : Nat), l = p ++ t → t.length < k →
    newsreelref27_Right.l0 k (p.length : Int) w (strOfNums l) = some (t.all okB && decide (l.length ≤ 100)) := by
  intro t
  induction t with
  | nil =>
    intro p k e hk
    obtain ⟨k, rfl⟩ : ∃ m, k = m + 1 := ⟨k - 1, by simp at hk; omega⟩
    have hlen : l.length = p.length := by rw [e, List.append_nil]
    simp only [newsreelref27_Right.l0]
    rw [nums_size, if_neg (by omega), List.all_nil, Bool.true_and]
    congr 1
    exact decide_eq_decide.mpr (by omega)
  | cons c t ih =>
    intro p k e hk
    obtain ⟨k, rfl⟩ : ∃ m, k = m + 1 := ⟨k - 1, by simp at hk; omega⟩
    have hlen : l.length = p.length + (t.length + 1) := by rw [e]; simp
    have hc : rd l (p.length : Int) = c := by rw [e]; exact rd_app p t c
    have hi := ih (p ++ [c]) k (by simpa using e) (by simp at hk; omega)
    have hcast : (((p ++ [c]).length : Nat) : Int) = (p.length : Int) + 1 := by simp
    rw [hcast] at hi
    simp only [newsreelref27_Right.l0]
    rw [nums_size, if_pos (by omega), if_pos (by omega), nums_bt hl, hc, w64 (by omega) (by omega), List.all_cons]
    by_cases h : c ≤ 32 ∨ c = 34 ∨ c = 127
    · rw [show okB c = false by simp only [okB, decide_eq_true h]; rfl, Bool.false_and, Bool.false_and, if_neg (by omega)]
      by_cases h1 : c < 35
      · rw [if_pos h1]
      · rw [if_neg h1, if_pos (by omega)]
    · rw [show okB c = true by simp only [okB, decide_eq_false h]; rfl, Bool.true_and]
      by_cases h1 : c = 33
      · rw [if_pos h1]; exact hi
      · rw [if_neg h1, if_neg (by omega), if_neg (by omega)]; exact hi
theorem ref27_Right_eq {k : Nat} {l : List Int} (hl : Bs l) (hn : l.length ≤ 140737488351232) (hk : l.length < k) (w : Bool) : newsreelref27_Right.f k w (strOfNums l) = some (rightL l) :=
  ref27_Right_l hl hn w l [] k rfl hk
theorem ref27_Put_eq {k : Nat} {l : List Int} (hl : Bs l) (hn : l.length ≤ 100000) (hk : l.length < k) (w : Bool) : newsreelref27_Put.f k w (strOfNums l) = some (strOfNums (putE w l).1, (putE w l).2) := by
  unfold newsreelref27_Put.f putE
  rw [ref27_Right_eq hl (by omega) hk, Option.bind_some, nums_size]
  by_cases h : rightL l = true
  · rw [if_pos h, if_pos h]
    cases w
    · rw [if_neg (by decide), if_pos (by omega), if_pos (by omega), if_neg (by decide), show (⟨#[34]⟩ : ByteArray) = strOfNums [34] from rfl]
      simp only [← nums_app, List.append_assoc]
      rfl
    · rw [if_pos rfl, if_pos (by omega), if_pos (by omega), if_pos rfl, show (⟨#[87, 47, 34]⟩ : ByteArray) = strOfNums [87, 47, 34] from rfl, show (⟨#[34]⟩ : ByteArray) = strOfNums [34] from rfl]
      simp only [← nums_app, List.append_assoc]
      rfl
  · rw [if_neg h, if_neg h]; rfl
theorem ref27_j1 {k : Nat} {m : List Int} (hm : Bs m) (hn : m.length ≤ 100000) (hk : m.length + 5 < k) (w : Bool) (z : ByteArray) :
    ∃ r : Bool × List Int × Int, newsreelref27_Get.j1 k (strOfNums m) w z = some (r.1, strOfNums r.2.1, r.2.2) ∧ ((∃ t, m = 34 :: (t ++ [34]) ∧ rightL t = true ∧ r = (w, t, 0)) ∨ ((∀ t, rightL t = true → m ≠ 34 :: (t ++ [34])) ∧ r = (false, [], 2))) := by
  obtain ⟨k, rfl⟩ : ∃ q, k = q + 1 + 1 := ⟨k - 2, by omega⟩
  have bad : ∀ x n, x = true → newsreelref27_Get.j2 (k + 1) (strOfNums m) n x w z = some (false, strOfNums [], 2) := by
    intro x n hx
    simp only [newsreelref27_Get.j2]
    rw [if_pos hx]; rfl
  simp only [newsreelref27_Get.j1]
  rw [nums_size]
  by_cases h2 : m.length < 2
  · rw [if_pos (by omega)]
    refine ⟨(false, [], 2), bad _ _ rfl, Or.inr ⟨fun t _ e => ?_, rfl⟩⟩
    rw [e] at h2
    simp at h2
    omega
  · obtain ⟨x, t, y, rfl⟩ : ∃ x t y, m = x :: (t ++ [y]) := by
      match m, h2 with
      | x :: u, h2 =>
        have hu : u ≠ [] := fun e => by rw [e] at h2; simp at h2
        exact ⟨x, u.dropLast, u.getLast hu, by rw [List.dropLast_concat_getLast hu]⟩
      | [], h2 => simp at h2
    have hlen : (x :: (t ++ [y])).length = t.length + 2 := by simp
    have r0 : rd (x :: (t ++ [y])) 0 = x := rfl
    have r1 : rd (x :: (t ++ [y])) ((t.length : Int) + 1) = y := by
      have := rd_app (x :: t) [] y
      simp only [List.length_cons] at this
      rw [show ((t.length + 1 : Nat) : Int) = (t.length : Int) + 1 by omega] at this
      exact this
    have ex : (strOfNums (x :: (t ++ [y]))).extract 1 ((t.length : Int) + 1).toNat = strOfNums t := by
      rw [nums_ext, show ((t.length : Int) + 1).toNat = t.length + 1 by omega]
      congr 1
      rw [List.take_succ_cons, List.drop_succ_cons, List.drop_zero, List.take_left' rfl]
    have bt' : Bs t := hm.tail.left
    rw [hlen, if_neg (by omega), if_pos (by omega), nums_bt hm, r0]
    have e1 : wrap64 (((t.length + 2 : Nat) : Int) - 1) = (t.length : Int) + 1 := by rw [w64 (by omega) (by omega)]; omega
    by_cases h3 : x = 34
    · rw [if_pos h3, e1, if_pos (by omega), if_pos (by omega), nums_bt hm, r1]
      by_cases h4 : y = 34
      · rw [show (y != 34) = false by rw [h4]; rfl]
        simp only [newsreelref27_Get.j2]
        rw [if_neg (by decide), e1, nums_size, hlen, if_pos (by omega), if_pos (by omega), ex, ref27_Right_eq bt' (by rw [hlen] at hn; omega) (by rw [hlen] at hk; omega), Option.bind_some]
        by_cases hr : rightL t = true
        · rw [if_pos hr]
          exact ⟨(w, t, 0), rfl, Or.inl ⟨t, by rw [h3, h4], hr, rfl⟩⟩
        · rw [if_neg hr]
          refine ⟨(false, [], 2), rfl, Or.inr ⟨fun u hu e => ?_, rfl⟩⟩
          simp only [List.cons.injEq] at e
          have := List.append_inj_left' e.2 rfl
          rw [this] at hr
          exact hr hu
      · refine ⟨(false, [], 2), bad _ _ (by simpa using h4), Or.inr ⟨fun u hu e => ?_, rfl⟩⟩
        simp only [List.cons.injEq] at e
        have := List.append_inj_right' e.2 rfl
        simp at this
        exact h4 this
    · rw [if_neg h3]
      refine ⟨(false, [], 2), bad _ _ rfl, Or.inr ⟨fun u hu e => ?_, rfl⟩⟩
      simp only [List.cons.injEq] at e
      exact h3 e.1
theorem ref27_Get_eq {k : Nat} {l : List Int} (hl : Bs l) (hn : l.length ≤ 100000) (hk : l.length + 10 < k) : newsreelref27_Get.f k (strOfNums l) = some ((getE l).1, strOfNums (getE l).2.1, (getE l).2.2) := by
  obtain ⟨k, rfl⟩ : ∃ q, k = q + 1 := ⟨k - 1, by omega⟩
  have key : newsreelref27_Get.f (k + 1) (strOfNums l) = newsreelref27_Get.j0 (k + 1) (strOfNums l) (decide (l.length > 2) && decide (l.take 2 = [87, 47])) false (⟨#[]⟩ : ByteArray) := by
    unfold newsreelref27_Get.f
    rw [nums_size]
    by_cases h : l.length > 2
    · rw [if_pos (by omega), if_pos (by decide), if_pos (by omega), nums_ext, List.drop_zero, decide_eq_true h, Bool.true_and]
      congr 1
      exact nums_beql (hl.take 2) [87, 47]
    · rw [if_neg (by omega), decide_eq_false h, Bool.false_and]
  rw [key]
  simp only [newsreelref27_Get.j0]
  by_cases hp : l.length > 2 ∧ l.take 2 = [87, 47]
  · have e : l = [87, 47] ++ l.drop 2 := by conv => lhs; rw [← List.take_append_drop 2 l, hp.2]
    rw [decide_eq_true hp.1, decide_eq_true hp.2, Bool.true_and, if_pos rfl, nums_size, if_pos (by omega), nums_ext, List.take_length]
    obtain ⟨r, h1, h2⟩ := ref27_j1 (k := k) (hl.drop 2) (by simp; omega) (by simp; omega) true (⟨#[]⟩ : ByteArray)
    rw [h1]
    rcases h2 with ⟨t, em, hr, rfl⟩ | ⟨hno, rfl⟩
    · have : getE l = (true, t, 0) := getE_iff.mpr ⟨hr, by rw [if_pos rfl, ← em]; exact e⟩
      rw [this]
    · rcases getE_bad l with h | h
      · obtain ⟨hr, el⟩ := getE_iff.mp (show getE l = ((getE l).1, (getE l).2.1, 0) by rw [← h])
        by_cases hw : (getE l).1 = true
        · rw [if_pos hw] at el
          have : l.drop 2 = 34 :: ((getE l).2.1 ++ [34]) := by
            conv => lhs; rw [el]
            rfl
          exact absurd this (hno _ hr)
        · rw [if_neg hw, List.nil_append] at el
          rw [el] at e
          simp at e
      · rw [h]
  · have hx : (decide (l.length > 2) && decide (l.take 2 = [87, 47])) = false := by
      rw [Bool.eq_false_iff]
      intro h
      rw [Bool.and_eq_true, decide_eq_true_eq, decide_eq_true_eq] at h
      exact hp h
    rw [hx, if_neg (by decide)]
    obtain ⟨r, h1, h2⟩ := ref27_j1 (k := k) hl hn (by omega) false (⟨#[]⟩ : ByteArray)
    rw [h1]
    rcases h2 with ⟨t, em, hr, rfl⟩ | ⟨hno, rfl⟩
    · have : getE l = (false, t, 0) := getE_iff.mpr ⟨hr, by rw [if_neg (by decide), List.nil_append]; exact em⟩
      rw [this]
    · rcases getE_bad l with h | h
      · obtain ⟨hr, el⟩ := getE_iff.mp (show getE l = ((getE l).1, (getE l).2.1, 0) by rw [← h])
        by_cases hw : (getE l).1 = true
        · rw [if_pos hw] at el
          refine absurd ⟨?_, ?_⟩ hp
          · rw [el]; simp
          · rw [el]; rfl
        · rw [if_neg hw, List.nil_append] at el
          exact absurd el (hno _ hr)
      · rw [h]
theorem ref27_Strong_eq {k : Nat} {a b : List Int} (ha : Bs a) (hb : Bs b) (hn : a.length ≤ 100000) (hm : b.length ≤ 100000) (hk : a.length + 10 < k) (hk' : b.length + 10 < k) : newsreelref27_Strong.f k (strOfNums a) (strOfNums b) = some (strongE a b) := by
  unfold newsreelref27_Strong.f strongE
  rw [ref27_Get_eq ha hn hk, Option.bind_some, ref27_Get_eq hb hm hk', Option.bind_some]
  simp only
  rw [nums_beq (getE_sub ha).1 (getE_sub hb).1]
  by_cases h1 : (getE a).2.2 = 0
  · by_cases h2 : (getE b).2.2 = 0
    · rw [if_pos h1, if_pos h2, decide_eq_true h1, decide_eq_true h2]
      cases (getE a).1 <;> cases (getE b).1 <;> simp
    · rw [if_pos h1, if_neg h2, decide_eq_true h1, decide_eq_false h2]; rfl
  · rw [if_neg h1, decide_eq_false h1]; rfl
theorem ref27_Weak_eq {k : Nat} {a b : List Int} (ha : Bs a) (hb : Bs b) (hn : a.length ≤ 100000) (hm : b.length ≤ 100000) (hk : a.length + 10 < k) (hk' : b.length + 10 < k) : newsreelref27_Weak.f k (strOfNums a) (strOfNums b) = some (weakE a b) := by
  unfold newsreelref27_Weak.f weakE
  rw [ref27_Get_eq ha hn hk, Option.bind_some, ref27_Get_eq hb hm hk', Option.bind_some]
  simp only
  rw [nums_beq (getE_sub ha).1 (getE_sub hb).1]
  by_cases h1 : (getE a).2.2 = 0
  · by_cases h2 : (getE b).2.2 = 0
    · rw [if_pos h1, if_pos h2, decide_eq_true h1, decide_eq_true h2]; rfl
    · rw [if_pos h1, if_neg h2, decide_eq_true h1, decide_eq_false h2]; rfl
  · rw [if_neg h1, decide_eq_false h1]; rfl

theorem awake_eq {k : Nat} (hk : 300 ≤ k) : newsreellaw27_awake.f k = some true := at_rounds newsreellaw27_awake.mono hk (by kernel_rfl)
theorem EtagTells : newsreellaw27_EtagTells.Pure := by
  intro x a b hx ha hb
  obtain ⟨w, u⟩ := x
  refine ⟨1000, ?_⟩
  simp only
  have hawake : newsreellaw27_EtagTells.j0 1000 a b true w u = some true := by
    simp only [newsreellaw27_EtagTells.j0]
    rw [if_pos True.intro, awake_eq (by decide)]
    rfl
  unfold newsreellaw27_EtagTells.f
  by_cases h1 : (u.size : Int) > 300
  · rw [if_pos h1]; exact hawake
  · rw [if_neg h1]
    by_cases h2 : (a.size : Int) > 300
    · rw [if_pos h2]; exact hawake
    · rw [if_neg h2]
      by_cases h3 : (b.size : Int) > 300
      · rw [show decide ((b.size : Int) > 300) = true from decide_eq_true h3]; exact hawake
      · rw [show decide ((b.size : Int) > 300) = false from decide_eq_false h3]
        have lu : (bytesOf u).length ≤ 300 := by rw [← size_list]; omega
        have la : (bytesOf a).length ≤ 300 := by rw [← size_list]; omega
        have lb : (bytesOf b).length ≤ 300 := by rw [← size_list]; omega
        have bu := Bs.of u; have ba := Bs.of a; have bb := Bs.of b
        rw [← nums_bytesOf u, ← nums_bytesOf a, ← nums_bytesOf b]
        generalize bytesOf u = U at *
        generalize bytesOf a = A at *
        generalize bytesOf b = B at *
        clear h1 h2 h3 hx ha hb hawake
        simp only [newsreellaw27_EtagTells.j0]
        rw [if_neg (by decide), etag_Put_eq bu (by omega) (by omega), Option.bind_some, ref27_Put_eq bu (by omega) (by omega), Option.bind_some, etag_Get_eq ba (by omega) (by omega), Option.bind_some, ref27_Get_eq ba (by omega) (by omega), Option.bind_some, etag_Right_eq bu (by omega) (by omega), Option.bind_some, ref27_Right_eq bu (by omega) (by omega), Option.bind_some, etag_Strong_eq ba bb (by omega) (by omega) (by omega) (by omega), ref27_Strong_eq ba bb (by omega) (by omega) (by omega) (by omega), etag_Weak_eq ba bb (by omega) (by omega) (by omega) (by omega), ref27_Weak_eq ba bb (by omega) (by omega) (by omega) (by omega), awake_eq (by decide)]
        simp
end Go.Proofs.Ytbncdnkleodciab.Pure
