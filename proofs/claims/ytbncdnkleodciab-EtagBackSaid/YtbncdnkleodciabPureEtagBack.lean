/- The law EtagBack is true for every input: what is put is got; what is got, put, is the text; tags that match strongly have one text. No condition beyond the row's own. -/
import Derived.Test.YtbncdnkleodciabPEtagBackx4
import Derived.Test.YtbncdnkleodciabStr
set_option linter.unusedVariables false
set_option linter.unusedSimpArgs false
namespace Go.Proofs.Ytbncdnkleodciab.Pure
open Go Go.RowKit Go.Proofs.Ytbncdnkleodciab.PEtagBack Go.Proofs.YtbncdnkleodciabW.PrintWords Go.Proofs.YtbncdnkleodciabW.PrintLast Go.Proofs.YtbncdnkleodciabW.PrintMore Go.Proofs.Ytbncdnkleodciab.Kit Go.Proofs.Ytbncdnkleodciab.Str

def cutPre (p a : List Int) : List Int × Bool := if a.take p.length = p then (a.drop p.length, true) else (a, false)
def cutSuf (p a : List Int) : List Int × Bool := if a.drop (a.length - p.length) = p then (a.take (a.length - p.length), true) else (a, false)
theorem cutPre_sub {p a : List Int} (h : Bs a) : Bs (cutPre p a).1 ∧ (cutPre p a).1.length ≤ a.length := by
  unfold cutPre
  split
  · exact ⟨h.drop _, by simp⟩
  · exact ⟨h, Nat.le_refl _⟩
theorem cutSuf_sub {p a : List Int} (h : Bs a) : Bs (cutSuf p a).1 ∧ (cutSuf p a).1.length ≤ a.length := by
  unfold cutSuf
  split
  · exact ⟨h.take _, by simp⟩
  · exact ⟨h, Nat.le_refl _⟩
theorem HasPrefix_eq {a p : List Int} (ha : Bs a) (hp : Bs p) : stringslite_HasPrefix.f (strOfNums a) (strOfNums p) = some (decide (a.take p.length = p)) := by
  unfold stringslite_HasPrefix.f
  rw [nums_size, nums_size]
  by_cases h : p.length ≤ a.length
  · rw [if_pos (by omega), if_pos (by omega), if_pos (by omega), nums_ext, Int.toNat_natCast, List.drop_zero, nums_beq (ha.take _) hp]
  · rw [if_neg (by omega), decide_eq_false]
    intro e
    have := congrArg List.length e
    simp at this
    omega
theorem CutPrefix_eq {a p : List Int} (ha : Bs a) (hp : Bs p) : strings_CutPrefix.f (strOfNums a) (strOfNums p) = some (strOfNums (cutPre p a).1, (cutPre p a).2) := by
  unfold strings_CutPrefix.f stringslite_CutPrefix.f cutPre
  rw [HasPrefix_eq ha hp, Option.bind_some, nums_size, nums_size]
  by_cases h : a.take p.length = p
  · have hl : p.length ≤ a.length := by
      have := congrArg List.length h
      simp at this
      omega
    rw [decide_eq_true h, if_pos rfl, if_pos (by omega), if_pos (by omega), nums_ext, Int.toNat_natCast, List.take_length, Option.bind_some, if_pos h]
  · rw [decide_eq_false h, if_neg (by decide), Option.bind_some, if_neg h]

theorem HasSuffix_eq {a p : List Int} (ha : Bs a) (hp : Bs p) (hn : a.length ≤ 140737488351232) : stringslite_HasSuffix.f (strOfNums a) (strOfNums p) = some (decide (a.drop (a.length - p.length) = p)) := by
  unfold stringslite_HasSuffix.f
  rw [nums_size, nums_size]
  by_cases h : p.length ≤ a.length
  · rw [if_pos (by omega), w64 (by omega) (by omega), if_pos (by omega), if_pos (by omega), nums_ext, show ((a.length : Int) - (p.length : Int)).toNat = a.length - p.length by omega, List.take_length, nums_beq (ha.drop _) hp]
  · rw [if_neg (by omega), decide_eq_false]
    intro e
    have := congrArg List.length e
    simp at this
    omega
theorem CutSuffix_eq {a p : List Int} (ha : Bs a) (hp : Bs p) (hn : a.length ≤ 140737488351232) : strings_CutSuffix.f (strOfNums a) (strOfNums p) = some (strOfNums (cutSuf p a).1, (cutSuf p a).2) := by
  unfold strings_CutSuffix.f stringslite_CutSuffix.f cutSuf
  rw [HasSuffix_eq ha hp hn, Option.bind_some, nums_size, nums_size]
  by_cases h : a.drop (a.length - p.length) = p
  · have hl : p.length ≤ a.length := by
      have := congrArg List.length h
      simp at this
      omega
    rw [decide_eq_true h, if_pos rfl, w64 (by omega) (by omega), if_pos (by omega), if_pos (by omega), nums_ext, show ((a.length : Int) - (p.length : Int)).toNat = a.length - p.length by omega, List.drop_zero, Option.bind_some, if_pos h]
  · rw [decide_eq_false h, if_neg (by decide), Option.bind_some, if_neg h]

def okB (c : Int) : Bool := !(decide (c ≤ 32 ∨ c = 34 ∨ c = 127))
def rightL (l : List Int) : Bool := l.all okB && decide (l.length ≤ 100)
theorem etag_Right_l {l : List Int} (hl : Bs l) (hn : l.length ≤ 140737488351232) (w : Bool) : ∀ (t p : List Int) (k : Nat), l = p ++ t → t.length < k →
    etag_Right.l0 k (l.length : Int) (p.length : Int) w (strOfNums l) = some (t.all okB && decide (l.length ≤ 100)) := by
  intro t
  induction t with
  | nil =>
    intro p k e hk
    obtain ⟨k, rfl⟩ : ∃ m, k = m + 1 := ⟨k - 1, by simp at hk; omega⟩
    have hlen : l.length = p.length := by rw [e, List.append_nil]
    simp only [etag_Right.l0]
    rw [nums_size, if_neg (by omega), List.all_nil, Bool.true_and]
    congr 1
    exact decide_eq_decide.mpr (by omega)
  | cons c t ih =>
    intro p k e hk
    obtain ⟨k, rfl⟩ : ∃ m, k = m + 1 := ⟨k - 1, by simp at hk; omega⟩
    have hlen : l.length = p.length + (t.length + 1) := by rw [e]; simp
    have hc : rd l (p.length : Int) = c := by rw [e]; exact rd_app p t c
    have hi := ih (p ++ [c]) k (by simpa using e) (by simp at hk; omega)
    have hcast : (((p ++ [c]).length : Nat) : Int) = (p.length : Int) + 1 := by simp
    rw [hcast] at hi
    simp only [etag_Right.l0]
    rw [nums_size, if_pos (by omega), if_pos (by omega), if_pos (by omega), nums_bt hl, hc, w64 (by omega) (by omega), List.all_cons]
    by_cases h : c ≤ 32 ∨ c = 34 ∨ c = 127
    · rw [show okB c = false by simp only [okB, decide_eq_true h]; rfl, Bool.false_and, Bool.false_and]
      by_cases h1 : c ≤ 32
      · rw [if_pos h1]
      · rw [if_neg h1]
        by_cases h2 : c = 34
        · rw [if_pos h2]
        · rw [if_neg h2, if_pos (by omega)]
    · rw [show okB c = true by simp only [okB, decide_eq_false h]; rfl, Bool.true_and, if_neg (by omega), if_neg (by omega), if_neg (by omega)]
      exact hi
theorem etag_Right_eq {k : Nat} {l : List Int} (hl : Bs l) (hn : l.length ≤ 140737488351232) (hk : l.length < k) (w : Bool) : etag_Right.f k w (strOfNums l) = some (rightL l) := by
  unfold etag_Right.f
  rw [nums_size]
  exact etag_Right_l hl hn w l [] k rfl hk
def putE (w : Bool) (l : List Int) : List Int × Int := if rightL l = true then ((if w = true then [87, 47] else []) ++ 34 :: (l ++ [34]), 0) else ([], 1)
theorem etag_Put_eq {k : Nat} {l : List Int} (hl : Bs l) (hn : l.length ≤ 100000) (hk : l.length < k) (w : Bool) : etag_Put.f k w (strOfNums l) = some (strOfNums (putE w l).1, (putE w l).2) := by
  unfold etag_Put.f putE
  rw [etag_Right_eq hl (by omega) hk, Option.bind_some, nums_size]
  by_cases h : rightL l = true
  · rw [if_pos h, if_pos h]
    cases w
    · rw [if_neg (by decide), if_pos (by omega), if_pos (by omega), if_pos (by omega), if_neg (by decide), show (⟨#[]⟩ : ByteArray) = strOfNums [] from rfl, show (⟨#[34]⟩ : ByteArray) = strOfNums [34] from rfl]
      simp only [← nums_app, List.append_assoc]
      rfl
    · rw [if_pos rfl, if_pos (by omega), if_pos (by omega), if_pos (by omega), if_pos rfl, show (⟨#[87, 47]⟩ : ByteArray) = strOfNums [87, 47] from rfl, show (⟨#[34]⟩ : ByteArray) = strOfNums [34] from rfl]
      simp only [← nums_app, List.append_assoc]
      rfl
  · rw [if_neg h, if_neg h]; rfl
def getE (l : List Int) : Bool × List Int × Int :=
  if (cutPre [34] (cutPre [87, 47] l).1).2 = true ∧ (cutSuf [34] (cutPre [34] (cutPre [87, 47] l).1).1).2 = true ∧ rightL (cutSuf [34] (cutPre [34] (cutPre [87, 47] l).1).1).1 = true then
    ((cutPre [87, 47] l).2, (cutSuf [34] (cutPre [34] (cutPre [87, 47] l).1).1).1, 0) else (false, [], 2)
theorem etag_Get_eq {k : Nat} {l : List Int} (hl : Bs l) (hn : l.length ≤ 100000) (hk : l.length < k) : etag_Get.f k (strOfNums l) = some ((getE l).1, strOfNums (getE l).2.1, (getE l).2.2) := by
  obtain ⟨b1, l1⟩ := cutPre_sub (p := [87, 47]) hl
  obtain ⟨b2, l2⟩ := cutPre_sub (p := [34]) b1
  obtain ⟨b3, l3⟩ := cutSuf_sub (p := [34]) b2
  have q : Bs [34] := Bs.dec (by decide)
  unfold etag_Get.f getE
  rw [show (⟨#[87, 47]⟩ : ByteArray) = strOfNums [87, 47] from rfl, show (⟨#[34]⟩ : ByteArray) = strOfNums [34] from rfl, CutPrefix_eq hl (Bs.dec (by decide)), Option.bind_some]
  simp only
  rw [CutPrefix_eq b1 q, Option.bind_some]
  simp only
  rw [CutSuffix_eq b2 q (by omega), Option.bind_some]
  simp only
  rw [etag_Right_eq b3 (by omega) (by omega), Option.bind_some]
  by_cases h1 : (cutPre [34] (cutPre [87, 47] l).1).2 = true
  · rw [if_pos h1]
    by_cases h2 : (cutSuf [34] (cutPre [34] (cutPre [87, 47] l).1).1).2 = true
    · rw [if_pos h2]
      by_cases h3 : rightL (cutSuf [34] (cutPre [34] (cutPre [87, 47] l).1).1).1 = true
      · rw [if_pos h3, if_pos ⟨h1, h2, h3⟩]
      · rw [if_neg h3, if_neg (fun h => h3 h.2.2)]; rfl
    · rw [if_neg h2, if_neg (fun h => h2 h.2.1)]; rfl
  · rw [if_neg h1, if_neg (fun h => h1 h.1)]; rfl
theorem getE_sub {l : List Int} (h : Bs l) : Bs (getE l).2.1 ∧ (getE l).2.1.length ≤ l.length := by
  obtain ⟨b1, l1⟩ := cutPre_sub (p := [87, 47]) h
  obtain ⟨b2, l2⟩ := cutPre_sub (p := [34]) b1
  obtain ⟨b3, l3⟩ := cutSuf_sub (p := [34]) b2
  unfold getE
  split
  · exact ⟨b3, by simp only; omega⟩
  · exact ⟨Bs.nil, by simp⟩
theorem cutPre_inv {p a : List Int} (h : (cutPre p a).2 = true) : a = p ++ (cutPre p a).1 := by
  unfold cutPre at h ⊢
  split at h
  · rename_i h1
    rw [if_pos h1]
    simp only
    conv => lhs; rw [← List.take_append_drop p.length a, h1]
  · cases h
theorem cutSuf_inv {p a : List Int} (h : (cutSuf p a).2 = true) : a = (cutSuf p a).1 ++ p := by
  unfold cutSuf at h ⊢
  split at h
  · rename_i h1
    rw [if_pos h1]
    simp only
    conv => lhs; rw [← List.take_append_drop (a.length - p.length) a, h1]
  · cases h
theorem cutPre_app (p b : List Int) : cutPre p (p ++ b) = (b, true) := by
  unfold cutPre
  rw [if_pos (by simp), List.drop_left' rfl]
theorem cutSuf_app (p b : List Int) : cutSuf p (b ++ p) = (b, true) := by
  unfold cutSuf
  have e : (b ++ p).length - p.length = b.length := by simp
  rw [e, if_pos (by rw [List.drop_left' rfl]), List.take_left' rfl]
theorem getE_iff {l t : List Int} {w : Bool} : getE l = (w, t, 0) ↔ rightL t = true ∧ l = (if w = true then [87, 47] else []) ++ 34 :: (t ++ [34]) := by
  constructor
  · intro h
    unfold getE at h
    split at h
    · rename_i hc
      obtain ⟨h1, h2, h3⟩ := hc
      cases h
      refine ⟨h3, ?_⟩
      have e1 := cutPre_inv h1
      have e2 := cutSuf_inv h2
      have e12 : (cutPre [87, 47] l).1 = 34 :: ((cutSuf [34] (cutPre [34] (cutPre [87, 47] l).1).1).1 ++ [34]) := by rw [← e2]; exact e1
      rw [← e12]
      by_cases hw : (cutPre [87, 47] l).2 = true
      · rw [if_pos hw]; exact cutPre_inv hw
      · rw [if_neg hw]
        unfold cutPre at hw ⊢
        split
        · rename_i h4; rw [if_pos h4] at hw; exact absurd rfl hw
        · rfl
    · cases h
  · rintro ⟨hr, rfl⟩
    have go : ∀ w', getE ((if w = true then [87, 47] else []) ++ 34 :: (t ++ [34])) = getE ((if w = true then [87, 47] else []) ++ 34 :: (t ++ [34])) → cutPre [87, 47] ((if w = true then [87, 47] else []) ++ 34 :: (t ++ [34])) = (34 :: (t ++ [34]), w') → getE ((if w = true then [87, 47] else []) ++ 34 :: (t ++ [34])) = (w', t, 0) := by
      intro w' _ h
      unfold getE
      rw [h]
      simp only
      have e1 : cutPre [34] (34 :: (t ++ [34])) = (t ++ [34], true) := cutPre_app [34] _
      rw [e1]
      simp only
      rw [cutSuf_app]
      simp only
      rw [if_pos ⟨trivial, trivial, hr⟩]
    cases w
    · refine go false rfl ?_
      rw [if_neg (by decide), List.nil_append]
      unfold cutPre
      rw [if_neg]
      intro e
      simp at e
    · refine go true rfl ?_
      rw [if_pos rfl]
      exact cutPre_app [87, 47] _
theorem getE_bad (l : List Int) : (getE l).2.2 = 0 ∨ getE l = (false, [], 2) := by
  unfold getE
  split
  · exact Or.inl rfl
  · exact Or.inr rfl
def strongE (a b : List Int) : Bool := decide ((getE a).2.2 = 0) && (decide ((getE b).2.2 = 0) && (!(getE a).1 && ((getE a).1 == (getE b).1 && decide ((getE a).2.1 = (getE b).2.1))))
def weakE (a b : List Int) : Bool := decide ((getE a).2.2 = 0) && (decide ((getE b).2.2 = 0) && decide ((getE a).2.1 = (getE b).2.1))
theorem etag_both_eq {k : Nat} {a b : List Int} (ha : Bs a) (hb : Bs b) (hn : a.length ≤ 100000) (hm : b.length ≤ 100000) (hk : a.length < k) (hk' : b.length < k) :
    etag_both.f k (strOfNums a) (strOfNums b) = some ((getE a).1, strOfNums (getE a).2.1, (getE b).1, strOfNums (getE b).2.1, decide ((getE a).2.2 = 0) && decide ((getE b).2.2 = 0)) := by
  unfold etag_both.f
  rw [etag_Get_eq ha hn hk, Option.bind_some, etag_Get_eq hb hm hk', Option.bind_some]
  simp only
  by_cases h : (getE a).2.2 = 0
  · rw [if_pos h, decide_eq_true h, Bool.true_and]
    rfl
  · rw [if_neg h, decide_eq_false h, Bool.false_and]
theorem etag_Strong_eq {k : Nat} {a b : List Int} (ha : Bs a) (hb : Bs b) (hn : a.length ≤ 100000) (hm : b.length ≤ 100000) (hk : a.length < k) (hk' : b.length < k) : etag_Strong.f k (strOfNums a) (strOfNums b) = some (strongE a b) := by
  unfold etag_Strong.f strongE
  rw [etag_both_eq ha hb hn hm hk hk', Option.bind_some]
  simp only
  rw [nums_beq (getE_sub ha).1 (getE_sub hb).1]
  cases decide ((getE a).2.2 = 0) <;> cases decide ((getE b).2.2 = 0) <;> cases (getE a).1 <;> simp
theorem etag_Weak_eq {k : Nat} {a b : List Int} (ha : Bs a) (hb : Bs b) (hn : a.length ≤ 100000) (hm : b.length ≤ 100000) (hk : a.length < k) (hk' : b.length < k) : etag_Weak.f k (strOfNums a) (strOfNums b) = some (weakE a b) := by
  unfold etag_Weak.f weakE
  rw [etag_both_eq ha hb hn hm hk hk', Option.bind_some]
  simp only
  rw [nums_beq (getE_sub ha).1 (getE_sub hb).1]
  cases decide ((getE a).2.2 = 0) <;> cases decide ((getE b).2.2 = 0) <;> simp
theorem weak_sym (a b : List Int) : weakE a b = weakE b a := by
  unfold weakE
  rw [show decide ((getE a).2.1 = (getE b).2.1) = decide ((getE b).2.1 = (getE a).2.1) from decide_eq_decide.mpr ⟨Eq.symm, Eq.symm⟩, ← Bool.and_assoc, ← Bool.and_assoc, Bool.and_comm (decide ((getE a).2.2 = 0))]
theorem strong_sym (a b : List Int) : strongE a b = strongE b a := by
  unfold strongE
  rw [show decide ((getE a).2.1 = (getE b).2.1) = decide ((getE b).2.1 = (getE a).2.1) from decide_eq_decide.mpr ⟨Eq.symm, Eq.symm⟩]
  cases decide ((getE a).2.2 = 0) <;> cases decide ((getE b).2.2 = 0) <;> cases (getE a).1 <;> cases (getE b).1 <;> simp
theorem strong_same {a b : List Int} (h : strongE a b = true) : a = b ∧ weakE a b = true := by
  unfold strongE at h
  simp only [Bool.and_eq_true, decide_eq_true_eq, Bool.not_eq_true', beq_iff_eq] at h
  obtain ⟨h1, h2, h3, h4, h5⟩ := h
  obtain ⟨_, ea⟩ := getE_iff.mp (show getE a = ((getE a).1, (getE a).2.1, 0) by rw [← h1])
  obtain ⟨_, eb⟩ := getE_iff.mp (show getE b = ((getE b).1, (getE b).2.1, 0) by rw [← h2])
  refine ⟨by rw [ea, eb, h4, h5], ?_⟩
  unfold weakE
  rw [decide_eq_true h1, decide_eq_true h2, decide_eq_true h5]
  rfl
theorem putE_sub (w : Bool) {l : List Int} (h : Bs l) : Bs (putE w l).1 ∧ (putE w l).1.length ≤ l.length + 4 := by
  unfold putE
  split
  · refine ⟨Bs.app ?_ (Bs.cons (by decide) (h.app (Bs.dec (by decide)))), ?_⟩
    · split
      · exact Bs.dec (by decide)
      · exact Bs.nil
    · cases w <;> simp
  · exact ⟨Bs.nil, by simp⟩

theorem awake_eq {k : Nat} (hk : 300 ≤ k) : newsreellaw27_awake.f k = some true := at_rounds newsreellaw27_awake.mono hk (by kernel_rfl)
theorem EtagBack : newsreellaw27_EtagBack.Pure := by
  intro x a b hx ha hb
  obtain ⟨w, u⟩ := x
  refine ⟨1000, ?_⟩
  simp only
  have hawake : newsreellaw27_EtagBack.j0 1000 a b true w u = some true := by
    simp only [newsreellaw27_EtagBack.j0]
    rw [if_pos True.intro, awake_eq (by decide)]
    rfl
  unfold newsreellaw27_EtagBack.f
  by_cases h1 : (u.size : Int) > 300
  · rw [if_pos h1]; exact hawake
  · rw [if_neg h1]
    by_cases h2 : (a.size : Int) > 300
    · rw [if_pos h2]; exact hawake
    · rw [if_neg h2]
      by_cases h3 : (b.size : Int) > 300
      · rw [show decide ((b.size : Int) > 300) = true from decide_eq_true h3]; exact hawake
      · rw [show decide ((b.size : Int) > 300) = false from decide_eq_false h3]
        have lu : (bytesOf u).length ≤ 300 := by rw [← size_list]; omega
        have la : (bytesOf a).length ≤ 300 := by rw [← size_list]; omega
        have lb : (bytesOf b).length ≤ 300 := by rw [← size_list]; omega
        have bu := Bs.of u; have ba := Bs.of a; have bb := Bs.of b
        rw [← nums_bytesOf u, ← nums_bytesOf a, ← nums_bytesOf b]
        generalize bytesOf u = U at *
        generalize bytesOf a = A at *
        generalize bytesOf b = B at *
        clear h1 h2 h3 hx ha hb hawake
        have k3 : newsreellaw27_EtagBack.j3 997 (strOfNums A) (strOfNums B) false = some true := by
          simp only [newsreellaw27_EtagBack.j3]
          rw [if_neg (by decide), etag_Strong_eq ba bb (by omega) (by omega) (by omega) (by omega), Option.bind_some, awake_eq (by decide), etag_Weak_eq ba bb (by omega) (by omega) (by omega) (by omega)]
          simp only [Option.bind_some]
          by_cases hs : strongE A B = true
          · obtain ⟨e, hw⟩ := strong_same hs
            rw [if_pos hs, if_pos (by rw [e]), if_pos hw]
          · rw [if_neg hs]
        have k2 : newsreellaw27_EtagBack.j2 998 (strOfNums A) (strOfNums B) false = some true := by
          simp only [newsreellaw27_EtagBack.j2]
          rw [if_neg (by decide), etag_Strong_eq ba bb (by omega) (by omega) (by omega) (by omega), Option.bind_some, etag_Strong_eq bb ba (by omega) (by omega) (by omega) (by omega), Option.bind_some, etag_Weak_eq ba bb (by omega) (by omega) (by omega) (by omega), Option.bind_some, etag_Weak_eq bb ba (by omega) (by omega) (by omega) (by omega), Option.bind_some, strong_sym B A, weak_sym B A, bne_self_eq_false, bne_self_eq_false, if_neg (by decide)]
          exact k3
        have k1 : newsreellaw27_EtagBack.j1 999 (strOfNums A) (strOfNums B) false = some true := by
          have sa := getE_sub ba
          have sp := putE_sub (getE A).1 sa.1
          simp only [newsreellaw27_EtagBack.j1]
          rw [if_neg (by decide), etag_Get_eq ba (by omega) (by omega), Option.bind_some]
          simp only
          rw [etag_Put_eq sa.1 (by omega) (by omega), Option.bind_some]
          simp only
          by_cases hg : (getE A).2.2 = 0
          · obtain ⟨hr, e⟩ := getE_iff.mp (show getE A = ((getE A).1, (getE A).2.1, 0) by rw [← hg])
            have ep : putE (getE A).1 (getE A).2.1 = (A, 0) := by
              unfold putE
              rw [if_pos hr, ← e]
            rw [if_pos hg, ep, if_pos rfl]
            simp only [bne_self_eq_false]
            exact k2
          · rw [if_neg hg]; exact k2
        have sp := putE_sub w bu
        simp only [newsreellaw27_EtagBack.j0]
        rw [if_neg (by decide), etag_Put_eq bu (by omega) (by omega), Option.bind_some]
        simp only
        rw [etag_Get_eq sp.1 (by omega) (by omega), Option.bind_some]
        simp only
        by_cases hp : rightL U = true
        · have e : getE (putE w U).1 = (w, U, 0) := getE_iff.mpr ⟨hp, by unfold putE; rw [if_pos hp]⟩
          rw [show (putE w U).2 = 0 by unfold putE; rw [if_pos hp], if_pos rfl, e, if_pos rfl]
          simpa using k1
        · rw [show (putE w U).2 = 1 by unfold putE; rw [if_neg hp], if_neg (by decide)]
          exact k1
end Go.Proofs.Ytbncdnkleodciab.Pure
