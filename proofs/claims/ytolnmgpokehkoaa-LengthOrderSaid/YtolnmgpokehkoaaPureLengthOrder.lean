/- The law LengthOrder is true for every input: the order of fields counts for nothing, nor does a field of another name. No condition beyond the row's own. -/
import Derived.Test.YtolnmgpokehkoaaPLengthOrderx5
import Derived.Test.YtolnmgpokehkoaaStr
set_option linter.unusedVariables false
set_option linter.unusedSimpArgs false
namespace Go.Proofs.Ytolnmgpokehkoaa.Pure
open Go Go.RowKit Go.Proofs.Ytolnmgpokehkoaa.PLengthOrder Go.Proofs.YtolnmgpokehkoaaW.PrintWords Go.Proofs.YtolnmgpokehkoaaW.PrintLast Go.Proofs.YtolnmgpokehkoaaW.PrintMore Go.Proofs.Ytolnmgpokehkoaa.Kit Go.Proofs.Ytolnmgpokehkoaa.Str

def isI (n : Int) : Bool := decide (0 ≤ n ∧ n ≤ 1099511627776)
theorem num_Is_eq (n : Int) : num_Is.f n = some (isI n) := by
  unfold num_Is.f isI
  split
  · congr 1; simp; omega
  · congr 1; simp; omega

/-- The number that digits tell, n having been told ahead. -/
def valI : Int → List Int → Int
  | n, [] => n
  | n, c :: t => valI (10 * n + (c - 48)) t
def digB (c : Int) : Bool := decide (48 ≤ c ∧ c ≤ 57)
def getS (l : List Int) : Int × Int :=
  if l = [] ∨ (1 < l.length ∧ l.head? = some 48) ∨ l.all digB = false then (0, 2)
  else if 13 < l.length then (0, 3) else if valI 0 l ≤ 1099511627776 then (valI 0 l, 0) else (0, 3)
theorem valI_bd (l : List Int) : ∀ (n : Int) (j : Nat), 0 ≤ n → n < 10 ^ j → l.all digB = true → 0 ≤ valI n l ∧ valI n l < 10 ^ (j + l.length) := by
  induction l with
  | nil => intro n j h0 h1 _; simpa [valI] using ⟨h0, h1⟩
  | cons c t ih =>
    intro n j h0 h1 h
    simp only [List.all_cons, Bool.and_eq_true, digB, decide_eq_true_eq] at h
    have := ih (10 * n + (c - 48)) (j + 1) (by omega) (by rw [Int.pow_succ]; omega) (by simpa [digB] using h.2)
    rw [valI]
    rwa [show j + 1 + t.length = j + (c :: t).length by simp; omega] at this
theorem pow13 {j : Nat} (h : j ≤ 13) : (10 : Int) ^ j ≤ 10000000000000 := by
  have : (10 : Int) ^ j ≤ 10 ^ 13 := by exact_mod_cast Nat.pow_le_pow_right (by decide) h
  simpa using this
theorem rd_lt256 (s : ByteArray) (i : Int) : 0 ≤ bt s i ∧ bt s i < 256 := by
  unfold bt
  split
  · have := (s[i.toNat]).toNat_lt; omega
  · omega

theorem num_Get_long (s : ByteArray) (hs : s.size ≤ 140737488351232) (h13 : 13 < s.size) (t : List Int) : ∀ (p : List Int) (n : Int) (k : Nat), bytesOf s = p ++ t → 2 * t.length < k →
    num_Get.l0 k s n (s.size : Int) (p.length : Int) = some (if t.all digB then (0, 3) else (0, 2)) := by
  induction t with
  | nil =>
    intro p n k he hk
    obtain ⟨k, rfl⟩ : ∃ m, k = m + 1 := ⟨k - 1, by omega⟩
    have hl : s.size = p.length := by rw [size_list, he]; simp
    simp only [num_Get.l0]
    rw [if_neg (by omega), if_pos (by omega)]
    simp
  | cons c t ih =>
    intro p n k he hk
    obtain ⟨k, rfl⟩ : ∃ m, k = m + 1 + 1 := ⟨k - 2, by simp at hk; omega⟩
    have hl : s.size = p.length + (t.length + 1) := by rw [size_list, he]; simp
    have hc : bt s (p.length : Int) = c := by rw [bt_list, he]; exact rd_mid p t c rfl
    have hb : 0 ≤ c ∧ c < 256 := by rw [← hc]; exact rd_lt256 s _
    have hi := fun n' => ih (p ++ [c]) n' k (by simpa using he) (by simp at hk; omega)
    have hcast : (((p ++ [c]).length : Nat) : Int) = (p.length : Int) + 1 := by simp
    rw [hcast] at hi
    simp only [num_Get.l0, hc]
    rw [if_pos (by omega), if_pos (by omega), if_pos (by omega)]
    by_cases h1 : c < 48
    · rw [if_pos h1]
      simp only [num_Get.j2]
      rw [if_pos trivial, List.all_cons, show digB c = false by unfold digB; simp; omega]
      rfl
    · rw [if_neg h1]
      simp only [num_Get.j2]
      by_cases h2 : c > 57
      · rw [if_pos (by simpa using h2), List.all_cons, show digB c = false by unfold digB; simp; omega]
        rfl
      · rw [if_neg (by simpa using h2), List.all_cons, show digB c = true by unfold digB; simp; omega, Bool.true_and, w64 (x := (p.length : Int) + 1) (by omega) (by omega)]
        split
        · rw [if_pos (by omega), if_pos (by omega)]
          exact hi _
        · exact hi _
theorem num_Get_short (s : ByteArray) (h13 : s.size ≤ 13) (t : List Int) : ∀ (p : List Int) (n : Int) (k : Nat), bytesOf s = p ++ t → 0 ≤ n → n < 10 ^ p.length → 2 * t.length < k →
    num_Get.l0 k s n (s.size : Int) (p.length : Int) = some (if t.all digB then (if valI n t ≤ 1099511627776 then (valI n t, 0) else (0, 3)) else (0, 2)) := by
  induction t with
  | nil =>
    intro p n k he h0 hn hk
    obtain ⟨k, rfl⟩ : ∃ m, k = m + 1 := ⟨k - 1, by omega⟩
    have hl : s.size = p.length := by rw [size_list, he]; simp
    simp only [num_Get.l0, num_Is_eq, Option.bind_some, isI, decide_eq_true_eq]
    rw [if_neg (by omega), if_neg (by omega)]
    rw [show valI n [] = n from rfl]
    simp only [List.all_nil, if_true]
    by_cases h : n ≤ 1099511627776
    · rw [if_pos ⟨h0, h⟩, if_pos h]
    · rw [if_neg (by omega), if_neg h]
  | cons c t ih =>
    intro p n k he h0 hn hk
    obtain ⟨k, rfl⟩ : ∃ m, k = m + 1 + 1 := ⟨k - 2, by simp at hk; omega⟩
    have hl : s.size = p.length + (t.length + 1) := by rw [size_list, he]; simp
    have hc : bt s (p.length : Int) = c := by rw [bt_list, he]; exact rd_mid p t c rfl
    have hb : 0 ≤ c ∧ c < 256 := by rw [← hc]; exact rd_lt256 s _
    have h10 := pow13 (show p.length ≤ 13 by omega)
    simp only [num_Get.l0, hc]
    rw [if_pos (by omega), if_pos (by omega), if_pos (by omega)]
    by_cases h1 : c < 48
    · rw [if_pos h1]
      simp only [num_Get.j2]
      rw [if_pos trivial, List.all_cons, show digB c = false by unfold digB; simp; omega]
      rfl
    · rw [if_neg h1]
      simp only [num_Get.j2, hc]
      by_cases h2 : c > 57
      · rw [if_pos (by simpa using h2), List.all_cons, show digB c = false by unfold digB; simp; omega]
        rfl
      · rw [if_neg (by simpa using h2), List.all_cons, show digB c = true by unfold digB; simp; omega, Bool.true_and, if_pos (by omega), if_pos (by omega), if_pos (by omega), w64 (x := (p.length : Int) + 1) (by omega) (by omega), w64 (x := 10 * n) (by omega) (by omega), show (c - 48) % 256 = c - 48 by omega, w64 (by omega) (by omega), valI]
        have hi := ih (p ++ [c]) (10 * n + (c - 48)) k (by simpa using he) (by omega) (by rw [List.length_append, List.length_singleton, Int.pow_succ]; omega) (by simp at hk; omega)
        have hcast : (((p ++ [c]).length : Nat) : Int) = (p.length : Int) + 1 := by simp
        rw [hcast] at hi
        exact hi
theorem num_Get_eq {k : Nat} {s : ByteArray} (hs : s.size ≤ 140737488351232) (hk : 2 * s.size + 2 ≤ k) : num_Get.f k s = some (getS (bytesOf s)) := by
  obtain ⟨k, rfl⟩ : ∃ m, k = m + 1 := ⟨k - 1, by omega⟩
  have hlen : (bytesOf s).length = s.size := (size_list s).symm
  have hl0 : ∀ n : Bool, n = false → bytesOf s ≠ [] → ¬ (1 < (bytesOf s).length ∧ (bytesOf s).head? = some 48) → num_Get.j0 (k + 1) s n = some (getS (bytesOf s)) := by
    intro n hn h1 h2
    subst hn
    simp only [num_Get.j0]
    rw [if_neg (by decide)]
    unfold getS
    by_cases h13 : 13 < s.size
    · have := num_Get_long s hs h13 (bytesOf s) [] 0 k rfl (by omega)
      rw [show (([] : List Int).length : Int) = 0 from rfl] at this
      rw [this]
      by_cases ha : (bytesOf s).all digB = true
      · rw [if_pos ha, if_neg (show ¬ (bytesOf s = [] ∨ (1 < (bytesOf s).length ∧ (bytesOf s).head? = some 48) ∨ (bytesOf s).all digB = false) by rw [ha]; simp only [Bool.true_eq_false, or_false]; exact fun h => h.elim h1 h2), if_pos (by omega)]
      · rw [if_neg ha, if_pos (show bytesOf s = [] ∨ (1 < (bytesOf s).length ∧ (bytesOf s).head? = some 48) ∨ (bytesOf s).all digB = false from .inr (.inr (by simpa using ha)))]
    · have := num_Get_short s (by omega) (bytesOf s) [] 0 k rfl (by omega) (by decide) (by omega)
      rw [show (([] : List Int).length : Int) = 0 from rfl] at this
      rw [this]
      by_cases ha : (bytesOf s).all digB = true
      · rw [if_pos ha, if_neg (show ¬ (bytesOf s = [] ∨ (1 < (bytesOf s).length ∧ (bytesOf s).head? = some 48) ∨ (bytesOf s).all digB = false) by rw [ha]; simp only [Bool.true_eq_false, or_false]; exact fun h => h.elim h1 h2), if_neg (show ¬ 13 < (bytesOf s).length by omega)]
      · rw [if_neg ha, if_pos (show bytesOf s = [] ∨ (1 < (bytesOf s).length ∧ (bytesOf s).head? = some 48) ∨ (bytesOf s).all digB = false from .inr (.inr (by simpa using ha)))]
  have hbad : ∀ n : Bool, n = true → (bytesOf s = [] ∨ (1 < (bytesOf s).length ∧ (bytesOf s).head? = some 48)) → num_Get.j0 (k + 1) s n = some (getS (bytesOf s)) := by
    intro n hn h
    subst hn
    simp only [num_Get.j0]
    rw [if_pos trivial]
    unfold getS
    rw [if_pos (h.elim .inl (fun h => .inr (.inl h)))]
  unfold num_Get.f
  have h0 : ∀ h : bytesOf s ≠ [], (bytesOf s).head? = some (bt s 0) := by
    intro h
    rw [bt_list]
    cases hb : bytesOf s with
    | nil => exact absurd hb h
    | cons c t => simp [rd]
  have he : s.toList = ([] : List UInt8) ↔ bytesOf s = [] := by rw [toList_lit]; rfl
  by_cases h1 : bytesOf s = []
  · rw [if_pos (he.mpr h1)]
    exact hbad _ rfl (.inl h1)
  · rw [if_neg (fun h => h1 (he.mp h))]
    by_cases h2 : (s.size : Int) > 1
    · rw [if_pos h2, if_pos (by omega)]
      by_cases h3 : bt s 0 = 48
      · exact hbad _ (by simpa using h3) (.inr ⟨by omega, by rw [h0 h1, h3]⟩)
      · exact hl0 _ (by simpa using h3) h1 (fun h => h3 (by rw [h0 h1] at h; exact Option.some.inj h.2))
    · rw [if_neg h2]
      exact hl0 _ rfl h1 (fun h => by omega)

/-! ### text: small, Same, Cut -/
def smallI (c : Int) : Int := if 65 ≤ c ∧ c ≤ 90 then c + 32 else c
theorem text_small_eq {c : Int} (h : 0 ≤ c ∧ c < 256) : text_small.f c = some (smallI c) := by
  unfold text_small.f smallI
  by_cases h1 : c ≥ 65
  · by_cases h2 : c ≤ 90
    · rw [if_pos h1, if_pos h2, if_pos ⟨h1, h2⟩]; congr 1; omega
    · rw [if_pos h1, if_neg h2, if_neg (by omega)]
  · rw [if_neg h1, if_neg (by omega)]
theorem text_Same_l {a b : List Int} (ha : Bs a) (hb : Bs b) (hn : a.length < 9223372036854775807) (h : a.length = b.length) : ∀ (t u p q : List Int) (k : Nat), a = p ++ t → b = q ++ u → p.length = q.length → t.length < k →
    text_Same.l0 k (strOfNums a) (strOfNums b) (a.length : Int) (p.length : Int) = some (decide (t.map smallI = u.map smallI)) := by
  intro t
  induction t with
  | nil =>
    intro u p q k ea eb hl hk
    obtain ⟨k, rfl⟩ : ∃ m, k = m + 1 := ⟨k - 1, by simp at hk; omega⟩
    have hu : u = [] := by
      rw [ea, eb, List.length_append, List.length_append, List.length_nil, hl] at h
      exact List.length_eq_zero_iff.mp (by omega)
    subst hu
    simp only [text_Same.l0]
    rw [if_neg (by rw [ea]; simp)]
    simp
  | cons c t ih =>
    intro u p q k ea eb hl hk
    obtain ⟨k, rfl⟩ : ∃ m, k = m + 1 := ⟨k - 1, by simp at hk; omega⟩
    have hla : a.length = p.length + (t.length + 1) := by rw [ea]; simp
    obtain ⟨d, u, rfl⟩ : ∃ d v, u = d :: v := by
      cases u with
      | nil => rw [eb] at h; simp at h; omega
      | cons d v => exact ⟨d, v, rfl⟩
    have hc : rd a (p.length : Int) = c := by rw [ea]; exact rd_app p t c
    have hd : rd b (p.length : Int) = d := by rw [eb, hl]; exact rd_app q u d
    have bc : 0 ≤ c ∧ c < 256 := ha c (by rw [ea]; simp)
    have bd : 0 ≤ d ∧ d < 256 := hb d (by rw [eb]; simp)
    have hi := ih u (p ++ [c]) (q ++ [d]) k (by simpa using ea) (by simpa using eb) (by simp [hl]) (by simp at hk; omega)
    have hcast : (((p ++ [c]).length : Nat) : Int) = (p.length : Int) + 1 := by simp
    rw [hcast] at hi
    simp only [text_Same.l0]
    rw [nums_size, nums_size, nums_bt ha, nums_bt hb, hc, hd, text_small_eq bc, text_small_eq bd, if_pos (by omega), if_pos (by omega), if_pos (by omega), Option.bind_some, if_pos (by omega), Option.bind_some, w64 (by omega) (by omega), hi]
    simp only [List.map_cons, List.cons.injEq]
    by_cases hs : smallI c = smallI d
    · rw [if_pos hs]; simp [hs]
    · rw [if_neg hs]; simp [hs]
theorem text_Same_eq {k : Nat} {a b : List Int} (ha : Bs a) (hb : Bs b) (hn : a.length ≤ 140737488351232) (hk : a.length < k) : text_Same.f k (strOfNums a) (strOfNums b) = some (decide (a.map smallI = b.map smallI)) := by
  unfold text_Same.f
  rw [nums_size, nums_size]
  by_cases h : a.length = b.length
  · rw [if_pos (by omega)]
    exact text_Same_l ha hb (by omega) h a b [] [] k rfl rfl rfl hk
  · rw [if_neg (by omega), decide_eq_false]
    intro e
    have := congrArg List.length e
    simp at this
    exact h this

theorem ref02_Lower_l {l : List Int} (hl : Bs l) (hn : l.length ≤ 140737488351232) : ∀ (t p : List Int) (k : Nat), l = p ++ t → t.length < k →
    newsreelref02_Lower.l0 k (strOfNums l) (p.map smallI) (p.length : Int) = some (strOfNums ((p ++ t).map smallI)) := by
  intro t
  induction t with
  | nil =>
    intro p k e hk
    obtain ⟨k, rfl⟩ : ∃ m, k = m + 1 := ⟨k - 1, by simp at hk; omega⟩
    simp only [newsreelref02_Lower.l0]
    rw [nums_size, if_neg (by rw [e]; simp), List.append_nil]
  | cons c t ih =>
    intro p k e hk
    obtain ⟨k, rfl⟩ : ∃ m, k = m + 1 := ⟨k - 1, by simp at hk; omega⟩
    have hlen : l.length = p.length + (t.length + 1) := by rw [e]; simp
    have hc : rd l (p.length : Int) = c := by rw [e]; exact rd_app p t c
    have bc : 0 ≤ c ∧ c < 256 := hl c (by rw [e]; simp)
    have hi := ih (p ++ [c]) k (by simpa using e) (by simp at hk; omega)
    have hcast : (((p ++ [c]).length : Nat) : Int) = (p.length : Int) + 1 := by simp
    rw [hcast, List.map_append, List.map_cons, List.map_nil, show p ++ [c] ++ t = p ++ c :: t by simp] at hi
    simp only [newsreelref02_Lower.l0]
    rw [nums_size, nums_bt hl, hc, w64 (by omega) (by omega), List.length_map, if_pos (by omega), if_pos (by omega)]
    unfold smallI at hi ⊢
    by_cases h1 : c ≥ 65
    · by_cases h2 : c ≤ 90
      · rw [if_pos h1, if_pos h2, if_pos (by omega), show (c + 32) % 256 = c + 32 by omega]
        rwa [if_pos ⟨h1, h2⟩] at hi
      · rw [if_pos h1, if_neg h2, if_pos (by omega)]
        rwa [if_neg (show ¬ (65 ≤ c ∧ c ≤ 90) from fun h => h2 h.2)] at hi
    · rw [if_neg h1, if_pos (by omega)]
      rwa [if_neg (show ¬ (65 ≤ c ∧ c ≤ 90) from fun h => h1 h.1)] at hi
theorem ref02_Lower_eq {k : Nat} {l : List Int} (hl : Bs l) (hn : l.length ≤ 140737488351232) (hk : l.length < k) : newsreelref02_Lower.f k (strOfNums l) = some (strOfNums (l.map smallI)) :=
  ref02_Lower_l hl hn l [] k rfl hk

/-! ### fields of a name -/
/-- The values of the fields of a name (given small). -/
def allL (nm : List Int) : List S59 → List ByteArray
  | [] => []
  | x :: t => if (bytesOf x.f0).map smallI = nm then x.f1 :: allL nm t else allL nm t
theorem allL_len (nm : List Int) : ∀ l : List S59, (allL nm l).length ≤ l.length
  | [] => by simp [allL]
  | x :: t => by
    have := allL_len nm t
    rw [allL]
    split <;> simp <;> omega
theorem allL_mem (nm : List Int) : ∀ (l : List S59) (v : ByteArray), v ∈ allL nm l → ∃ x ∈ l, x.f1 = v
  | [], v, h => by cases h
  | x :: t, v, h => by
    rw [allL] at h
    split at h
    · rcases List.mem_cons.mp h with rfl | h
      · exact ⟨x, by simp, rfl⟩
      · obtain ⟨y, hy, e⟩ := allL_mem nm t v h
        exact ⟨y, by simp [hy], e⟩
    · obtain ⟨y, hy, e⟩ := allL_mem nm t v h
      exact ⟨y, by simp [hy], e⟩
theorem allL_app (nm : List Int) : ∀ a b : List S59, allL nm (a ++ b) = allL nm a ++ allL nm b
  | [], b => rfl
  | x :: t, b => by
    rw [List.cons_append, allL, allL, allL_app nm t b]
    split <;> rfl
theorem rdF_app (p t : List S59) (x : S59) : rd_T59 (p ++ x :: t) (p.length : Int) = x := by simp [rd_T59]
theorem field_All_l {L : List S59} (hL : ∀ x ∈ L, x.f0.size ≤ 100000) (hn : L.length ≤ 100000) {nm : List Int} (hb : Bs nm) : ∀ (t p : List S59) (acc : List ByteArray) (k : Nat), L = p ++ t → acc.length ≤ p.length → t.length + 100010 < k →
    field_All.l0 k (strOfNums nm) acc L (L.length : Int) (p.length : Int) = some (acc ++ allL (nm.map smallI) t) := by
  intro t
  induction t with
  | nil =>
    intro p acc k e ha hk
    obtain ⟨k, rfl⟩ : ∃ m, k = m + 1 := ⟨k - 1, by omega⟩
    have hlen : L.length = p.length := by rw [e, List.append_nil]
    simp only [field_All.l0]
    rw [if_neg (by omega)]
    simp [allL]
  | cons x t ih =>
    intro p acc k e ha hk
    obtain ⟨k, rfl⟩ : ∃ m, k = m + 1 := ⟨k - 1, by omega⟩
    have hlen : L.length = p.length + (t.length + 1) := by rw [e]; simp
    have hr : rd_T59 L (p.length : Int) = x := by rw [e]; exact rdF_app p t x
    have hx : (bytesOf x.f0).length ≤ 100000 := by rw [← size_list]; exact hL x (by rw [e]; simp)
    have hs : text_Same.f k x.f0 (strOfNums nm) = some (decide ((bytesOf x.f0).map smallI = nm.map smallI)) := by
      conv => lhs; rw [← nums_bytesOf x.f0]
      exact text_Same_eq (Bs.of _) hb (by omega) (by simp at hk; omega)
    have hi := fun acc' h => ih (p ++ [x]) acc' k (by simpa using e) h (by simp at hk; omega)
    have hcast : (((p ++ [x]).length : Nat) : Int) = (p.length : Int) + 1 := by simp
    rw [hcast] at hi
    simp only [field_All.l0]
    rw [if_pos (by omega), if_pos (by omega), if_pos (by omega), hr, hs, Option.bind_some, w64 (by omega) (by omega), allL]
    by_cases h : (bytesOf x.f0).map smallI = nm.map smallI
    · rw [decide_eq_true h, if_pos rfl, if_pos (by omega), if_pos h, hi _ (by simp; omega)]
      simp
    · rw [decide_eq_false h, if_neg (by decide), if_neg h, hi _ (by simp; omega)]
theorem field_All_eq {k : Nat} {L : List S59} (hL : ∀ x ∈ L, x.f0.size ≤ 100000) (hn : L.length ≤ 100000) {nm : List Int} (hb : Bs nm) (hk : 200100 < k) : field_All.f k L (strOfNums nm) = some (allL (nm.map smallI) L) :=
  field_All_l hL hn hb L [] [] k rfl (by simp) (by omega)

/-! ### length -/
def noneB (code : Int) : Bool := decide (code < 200 ∨ code = 204 ∨ code = 304)
theorem length_none_eq (code : Int) : length_none.f code = some (noneB code) := by
  unfold length_none.f noneB
  by_cases h1 : code < 200
  · rw [if_pos h1, decide_eq_true (Or.inl h1)]
  · rw [if_neg h1]
    by_cases h2 : code = 204
    · rw [if_pos h2, decide_eq_true (Or.inr (Or.inl h2))]
    · rw [if_neg h2]
      by_cases h3 : code = 304
      · rw [decide_eq_true (Or.inr (Or.inr h3))]; simp [h3]
      · rw [decide_eq_false (fun h => h.elim h1 (fun h => h.elim h2 h3))]; simp [h3]
def longL : List ByteArray → Int × Int × Int
  | [] => (4, 0, 0)
  | c :: t => if t.all (fun s => s.toList == c.toList) = true then (if (getS (bytesOf c)).2 = 0 then (2, (getS (bytesOf c)).1, 0) else (0, 0, 12)) else (0, 0, 12)
theorem longL_cons (c : ByteArray) (t : List ByteArray) : longL (c :: t) = if t.all (fun s => s.toList == c.toList) = true then (if (getS (bytesOf c)).2 = 0 then (2, (getS (bytesOf c)).1, 0) else (0, 0, 12)) else (0, 0, 12) := rfl
def chunkedW : List Int := [99, 104, 117, 110, 107, 101, 100]
def ofL (code : Int) (te cl : List ByteArray) : Int × Int × Int :=
  if noneB code = true then (1, 0, 0) else match te with
    | [] => longL cl
    | c :: t => if t = [] ∧ cl = [] ∧ (bytesOf c).map smallI = chunkedW then (3, 0, 0) else (0, 0, 12)
theorem length_long_1_eq (s c : ByteArray) (t : List ByteArray) : length_long_1.f s [c :: t] = some (s.toList != c.toList) := by
  unfold length_long_1.f
  rw [if_pos (by simp)]
  show (if (0 : Int) < (((c :: t).length : Nat) : Int) then some (s.toList != (rdOf ByteArray.empty (c :: t) 0).toList) else none) = _
  rw [if_pos (by simp <;> omega)]
  rfl
theorem rdB_app (p t : List ByteArray) (x : ByteArray) : rdOf ByteArray.empty (p ++ x :: t) (p.length : Int) = x := by simp [rdOf]
theorem length_index_l {L : List ByteArray} (hn : L.length ≤ 100000) (c : ByteArray) (u : List ByteArray) : ∀ (t p : List ByteArray) (k : Nat), L = p ++ t → t.length < k →
    ∃ r, slices_IndexFunc_string_string_length_long_1.l0 k L (L.length : Int) (p.length : Int) [c :: u] = some r ∧ decide (r ≥ 0) = t.any (fun s => s.toList != c.toList) := by
  intro t
  induction t with
  | nil =>
    intro p k e hk
    obtain ⟨k, rfl⟩ : ∃ m, k = m + 1 := ⟨k - 1, by simp at hk; omega⟩
    have hlen : L.length = p.length := by rw [e, List.append_nil]
    simp only [slices_IndexFunc_string_string_length_long_1.l0]
    rw [if_neg (by omega)]
    exact ⟨-1, rfl, rfl⟩
  | cons x t ih =>
    intro p k e hk
    obtain ⟨k, rfl⟩ : ∃ m, k = m + 1 := ⟨k - 1, by simp at hk; omega⟩
    have hlen : L.length = p.length + (t.length + 1) := by rw [e]; simp
    have hr : rdOf ByteArray.empty L (p.length : Int) = x := by rw [e]; exact rdB_app p t x
    obtain ⟨r, h1, h2⟩ := ih (p ++ [x]) k (by simpa using e) (by simp at hk; omega)
    have hcast : (((p ++ [x]).length : Nat) : Int) = (p.length : Int) + 1 := by simp
    rw [hcast] at h1
    simp only [slices_IndexFunc_string_string_length_long_1.l0]
    rw [if_pos (by omega), if_pos (by omega), if_pos (by omega), hr, length_long_1_eq, Option.bind_some, w64 (by omega) (by omega), List.any_cons]
    by_cases hx : (x.toList != c.toList) = true
    · rw [if_pos hx, hx, Bool.true_or]
      exact ⟨_, rfl, decide_eq_true (by omega)⟩
    · rw [if_neg hx, h1, show (x.toList != c.toList) = false by simpa using hx, Bool.false_or]
      exact ⟨r, rfl, h2⟩
theorem length_long_eq {k : Nat} {c : ByteArray} {t : List ByteArray} (hn : (c :: t).length ≤ 100000) (hc : c.size ≤ 100000) (hk : 300000 < k) : length_long.f k (c :: t) = some (longL (c :: t)) := by
  obtain ⟨r, h1, h2⟩ := length_index_l hn c t (c :: t) [] k rfl (by omega)
  unfold length_long.f slices_ContainsFunc_string_string_length_long_1.f slices_IndexFunc_string_string_length_long_1.f
  rw [longL_cons]
  have h1' : slices_IndexFunc_string_string_length_long_1.l0 k (c :: t) ((c :: t).length : Int) 0 [c :: t] = some r := h1
  rw [h1', Option.bind_some, Option.bind_some, h2, List.any_cons]
  have e : ((c.toList != c.toList) || t.any fun s => s.toList != c.toList) = !(t.all fun s => s.toList == c.toList) := by
    rw [show (c.toList != c.toList) = false by simp, Bool.false_or, List.not_all_eq_any_not]
    rfl
  rw [e]
  by_cases ha : (t.all fun s => s.toList == c.toList) = true
  · rw [ha, if_neg (by decide), if_pos rfl, if_pos (by simp <;> omega), show rdOf ByteArray.empty (c :: t) 0 = c from rfl, num_Get_eq (by omega) (by omega), Option.bind_some]
    split <;> rfl
  · rw [show (t.all fun s => s.toList == c.toList) = false by simpa using ha, if_pos (by decide), if_neg (by decide)]
def teW : List Int := [116, 114, 97, 110, 115, 102, 101, 114, 45, 101, 110, 99, 111, 100, 105, 110, 103]
def clW : List Int := [99, 111, 110, 116, 101, 110, 116, 45, 108, 101, 110, 103, 116, 104]
theorem length_Of_eq {k : Nat} {l : List S59} (code : Int) (hL : ∀ x ∈ l, x.f0.size ≤ 100000 ∧ x.f1.size ≤ 100000) (hn : l.length ≤ 100000) (hk : 300000 < k) : length_Of.f k code l = some (ofL code (allL teW l) (allL clW l)) := by
  have h0 : ∀ x ∈ l, x.f0.size ≤ 100000 := fun x hx => (hL x hx).1
  have hv : ∀ nm, ∀ v ∈ allL nm l, v.size ≤ 100000 := fun nm v hm => by
    obtain ⟨x, hx, rfl⟩ := allL_mem nm l v hm
    exact (hL x hx).2
  have ht := allL_len teW l; have hc := allL_len clW l
  have vt := hv teW; have vc := hv clW
  unfold length_Of.f ofL
  rw [show (⟨#[84, 114, 97, 110, 115, 102, 101, 114, 45, 69, 110, 99, 111, 100, 105, 110, 103]⟩ : ByteArray) = strOfNums [84, 114, 97, 110, 115, 102, 101, 114, 45, 69, 110, 99, 111, 100, 105, 110, 103] from rfl, field_All_eq h0 hn (Bs.dec (by decide)) (by omega), Option.bind_some, show (⟨#[67, 111, 110, 116, 101, 110, 116, 45, 76, 101, 110, 103, 116, 104]⟩ : ByteArray) = strOfNums [67, 111, 110, 116, 101, 110, 116, 45, 76, 101, 110, 103, 116, 104] from rfl, field_All_eq h0 hn (Bs.dec (by decide)) (by omega), Option.bind_some, length_none_eq, Option.bind_some]
  rw [show [84, 114, 97, 110, 115, 102, 101, 114, 45, 69, 110, 99, 111, 100, 105, 110, 103].map smallI = teW by decide, show [67, 111, 110, 116, 101, 110, 116, 45, 76, 101, 110, 103, 116, 104].map smallI = clW by decide]
  generalize allL teW l = te at *
  generalize allL clW l = cl at *
  by_cases hno : noneB code = true
  · rw [if_pos hno, if_pos hno]
  · rw [if_neg hno, if_neg hno]
    cases te with
    | nil =>
      rw [if_neg (by simp)]
      cases cl with
      | nil => rfl
      | cons c t =>
        rw [if_pos (by simp <;> omega), length_long_eq (by omega) (vc c (by simp)) hk, Option.bind_some]
    | cons c t =>
      rw [if_pos (by simp <;> omega)]
      cases t with
      | cons d t => rw [if_pos (by simp <;> omega)]; simp
      | nil =>
        rw [if_neg (by simp)]
        cases cl with
        | cons d u => rw [if_pos (by simp <;> omega)]; simp
        | nil =>
          have hs : text_Same.f k c (⟨#[99, 104, 117, 110, 107, 101, 100]⟩ : ByteArray) = some (decide ((bytesOf c).map smallI = chunkedW)) := by
            conv => lhs; rw [← nums_bytesOf c]
            exact text_Same_eq (b := chunkedW) (Bs.of c) (Bs.dec (by decide)) (by rw [← size_list]; have := vt c (by simp); omega) (by rw [← size_list]; have := vt c (by simp); omega)
          rw [if_neg (by simp), if_pos (by simp), show rdOf ByteArray.empty [c] 0 = c from rfl, hs, Option.bind_some]
          by_cases h : (bytesOf c).map smallI = chunkedW
          · rw [decide_eq_true h, if_pos rfl]; simp [h]
          · rw [decide_eq_false h, if_neg (by decide)]; simp [h]

theorem few_l {L : List S59} (hn : L.length ≤ 30) : ∀ (t p : List S59) (k : Nat), L = p ++ t → t.length < k →
    ∃ b, newsreelref25_Few.l0 k L (p.length : Int) = some b ∧ (b = true → ∀ x ∈ t, x.f0.size ≤ 300 ∧ x.f1.size ≤ 2100) := by
  intro t
  induction t with
  | nil =>
    intro p k e hk
    obtain ⟨k, rfl⟩ : ∃ m, k = m + 1 := ⟨k - 1, by simp at hk; omega⟩
    have hlen : L.length = p.length := by rw [e, List.append_nil]
    simp only [newsreelref25_Few.l0]
    rw [if_neg (by omega)]
    exact ⟨true, rfl, fun _ x hx => by cases hx⟩
  | cons x t ih =>
    intro p k e hk
    obtain ⟨k, rfl⟩ : ∃ m, k = m + 1 := ⟨k - 1, by simp at hk; omega⟩
    have hlen : L.length = p.length + (t.length + 1) := by rw [e]; simp
    have hr : rd_T59 L (p.length : Int) = x := by rw [e]; exact rdF_app p t x
    obtain ⟨b, h1, h2⟩ := ih (p ++ [x]) k (by simpa using e) (by simp at hk; omega)
    have hcast : (((p ++ [x]).length : Nat) : Int) = (p.length : Int) + 1 := by simp
    rw [hcast] at h1
    simp only [newsreelref25_Few.l0]
    rw [if_pos (by omega), if_pos (by omega), hr, w64 (by omega) (by omega), h1]
    by_cases g1 : (x.f0.size : Int) > 300
    · rw [if_pos g1]; exact ⟨false, rfl, fun h => by cases h⟩
    · rw [if_neg g1]
      by_cases g2 : (x.f1.size : Int) > 2100
      · rw [if_pos g2]; exact ⟨false, rfl, fun h => by cases h⟩
      · rw [if_neg g2]
        refine ⟨b, rfl, fun h y hy => ?_⟩
        rcases List.mem_cons.mp hy with rfl | hy
        · omega
        · exact h2 h y hy
theorem few_eq {k : Nat} {l : List S59} (hk : 100 ≤ k) : ∃ b, newsreelref25_Few.f k l = some b ∧ (b = true → l.length ≤ 100000 ∧ ∀ x ∈ l, x.f0.size ≤ 100000 ∧ x.f1.size ≤ 100000) := by
  unfold newsreelref25_Few.f
  by_cases h : (l.length : Int) > 30
  · rw [if_pos h]; exact ⟨false, rfl, fun h => by cases h⟩
  · rw [if_neg h]
    obtain ⟨b, h1, h2⟩ := few_l (L := l) (by omega) l [] k rfl (by omega)
    refine ⟨b, h1, fun hb => ⟨by omega, fun x hx => ?_⟩⟩
    have := h2 hb x hx
    omega
theorem few_len {k : Nat} {l : List S59} (h : newsreelref25_Few.f k l = some true) : l.length ≤ 10000 := by
  unfold newsreelref25_Few.f at h
  by_cases h1 : (l.length : Int) > 30
  · rw [if_pos h1] at h; cases h
  · omega

/-! ### length: order counts for nothing -/
theorem allL_rev (nm : List Int) : ∀ l : List S59, allL nm l.reverse = (allL nm l).reverse
  | [] => rfl
  | x :: t => by
    rw [List.reverse_cons, allL_app, allL_rev nm t]
    by_cases h : (bytesOf x.f0).map smallI = nm
    · rw [show allL nm [x] = [x.f1] by rw [allL, if_pos h]; rfl, show allL nm (x :: t) = x.f1 :: allL nm t by rw [allL, if_pos h], List.reverse_cons]
    · rw [show allL nm [x] = [] by rw [allL, if_neg h]; rfl, show allL nm (x :: t) = allL nm t by rw [allL, if_neg h], List.append_nil]
def longR (b : List Int) : Int × Int × Int := if (getS b).2 = 0 then (2, (getS b).1, 0) else (0, 0, 12)
theorem longL_same {l : List ByteArray} (h : l ≠ []) {b : List Int} (hb : ∀ s ∈ l, bytesOf s = b) : longL l = longR b := by
  cases l with
  | nil => exact absurd rfl h
  | cons c t =>
    have hc := hb c (List.mem_cons_self ..)
    have ha : t.all (fun s => s.toList == c.toList) = true := List.all_eq_true.mpr fun s hs => by
      have := hb s (List.mem_cons_of_mem _ hs)
      rw [beq_iff_eq, toList_iff, this, hc]
    rw [longL_cons, if_pos ha, hc]
    rfl
theorem longL_diff {l : List ByteArray} (h : l ≠ []) (hb : ¬ ∃ b : List Int, ∀ s ∈ l, bytesOf s = b) : longL l = (0, 0, 12) := by
  cases l with
  | nil => exact absurd rfl h
  | cons c t =>
    have ha : ¬ t.all (fun s => s.toList == c.toList) = true := fun ha => hb ⟨bytesOf c, fun s hs => by
      rcases List.mem_cons.mp hs with rfl | hs
      · rfl
      · have := List.all_eq_true.mp ha s hs
        rwa [beq_iff_eq, toList_iff] at this⟩
    rw [longL_cons, if_neg ha]
theorem longL_rev (l : List ByteArray) : longL l.reverse = longL l := by
  by_cases h : l = []
  · subst h; rfl
  · have h' : l.reverse ≠ [] := fun e => h (List.reverse_eq_nil_iff.mp e)
    by_cases hb : ∃ b : List Int, ∀ s ∈ l, bytesOf s = b
    · obtain ⟨b, hb⟩ := hb
      rw [longL_same h hb, longL_same h' fun s hs => hb s (List.mem_reverse.mp hs)]
    · rw [longL_diff h hb, longL_diff h' fun ⟨b, h2⟩ => hb ⟨b, fun s hs => h2 s (List.mem_reverse.mpr hs)⟩]
theorem ofL_rev (code : Int) (te cl : List ByteArray) : ofL code te.reverse cl.reverse = ofL code te cl := by
  unfold ofL
  split
  · rfl
  · cases te with
    | nil => rw [List.reverse_nil]; exact longL_rev cl
    | cons c t =>
      cases t with
      | nil =>
        simp only [List.reverse_cons, List.reverse_nil, List.nil_append, List.reverse_eq_nil_iff]
      | cons d u =>
        cases hr : (c :: d :: u).reverse with
        | nil => exact absurd hr (by simp)
        | cons e v =>
          have hv : v ≠ [] := fun e' => by
            subst e'
            have := congrArg List.length hr
            simp at this
          simp only [hv, false_and, if_false, reduceCtorEq]

theorem awake_eq {k : Nat} (hk : 400 ≤ k) : newsreellaw29_awake.f k = some true := at_rounds newsreellaw29_awake.mono hk (by kernel_rfl)
theorem lit_if {α : Sort _} {l : List Int} (hl : Bs l) {m : List UInt8} {n : List Int} (hm : m.map (fun b => (b.toNat : Int)) = n) (x y : α) : (if (strOfNums l).toList = m then x else y) = if l = n then x else y := by
  subst hm; exact nums_ifl hl m x y
theorem lit_beq {l : List Int} (hl : Bs l) {m : List UInt8} {n : List Int} (hm : m.map (fun b => (b.toNat : Int)) = n) : ((strOfNums l).toList == m) = decide (l = n) := by
  subst hm
  by_cases h : (strOfNums l).toList = m
  · rw [decide_eq_true ((nums_lit hl m).mp h), beq_iff_eq]; exact h
  · rw [decide_eq_false fun e => h ((nums_lit hl m).mpr e)]; exact beq_eq_false_iff_ne.mpr h
theorem small_Bs {l : List Int} (h : Bs l) : Bs (l.map smallI) := fun y hy => by
  obtain ⟨z, hz, rfl⟩ := List.mem_map.mp hy
  have := h z hz
  unfold smallI
  split <;> omega
theorem j3_eq {k : Nat} {code : Int} {L : List S59} {x : S59} (hk : 300100 < k) (hn : L.length ≤ 10000) (hL : ∀ y ∈ L, y.f0.size ≤ 100000 ∧ y.f1.size ≤ 100000) (hx : x.f0.size ≤ 100000 ∧ x.f1.size ≤ 100000)
    (b : Bool) (hb : b = false → (bytesOf x.f0).map smallI ≠ clW ∧ (bytesOf x.f0).map smallI ≠ teW) :
    newsreellaw29_LengthOrder.j3 k code L (ofL code (allL teW L) (allL clW L)).2.2 b x.f0 x.f1 (ofL code (allL teW L) (allL clW L)).1 (ofL code (allL teW L) (allL clW L)).2.1 = some true := by
  obtain ⟨k, rfl⟩ : ∃ m, k = m + 1 := ⟨k - 1, by omega⟩
  simp only [newsreellaw29_LengthOrder.j3]
  cases b with
  | true => rw [if_pos rfl, awake_eq (by omega), Option.bind_some]
  | false =>
    obtain ⟨h1, h2⟩ := hb rfl
    have e : ([(⟨x.f0, x.f1⟩ : S59)] : List S59) = [x] := rfl
    have ht : allL teW (L ++ [x]) = allL teW L := by rw [allL_app, allL, if_neg h2, allL, List.append_nil]
    have hc : allL clW (L ++ [x]) = allL clW L := by rw [allL_app, allL, if_neg h1, allL, List.append_nil]
    rw [if_neg (by decide), Option.bind_some, if_pos (by simp; omega), Option.bind_some, Option.bind_some, e, List.nil_append, if_pos (by simp; omega)]
    rw [length_Of_eq code (l := L ++ [x]) (fun y hy => (List.mem_append.mp hy).elim (hL y) fun h => by simp at h; subst h; exact hx) (by simp; omega) (by omega), Option.bind_some, ht, hc, if_pos (by simp), if_pos rfl, awake_eq (by omega), Option.bind_some]
theorem j2_eq {k : Nat} {code : Int} {L : List S59} {x : S59} (hk : 300101 < k) (hn : L.length ≤ 10000) (hL : ∀ y ∈ L, y.f0.size ≤ 100000 ∧ y.f1.size ≤ 100000) (hx : x.f0.size ≤ 100000 ∧ x.f1.size ≤ 100000) :
    newsreellaw29_LengthOrder.j2 k code L (ofL code (allL teW L) (allL clW L)).2.2 false x.f0 x.f1 (ofL code (allL teW L) (allL clW L)).1 (ofL code (allL teW L) (allL clW L)).2.1 = some true := by
  obtain ⟨k, rfl⟩ : ∃ m, k = m + 1 := ⟨k - 1, by omega⟩
  simp only [newsreellaw29_LengthOrder.j2]
  have hs : newsreelref02_Lower.f k x.f0 = some (strOfNums ((bytesOf x.f0).map smallI)) := by
    have := hx.1
    rw [size_list] at this
    conv => lhs; rw [← nums_bytesOf x.f0]
    exact ref02_Lower_eq (Bs.of _) (by omega) (by omega)
  rw [if_neg (by decide), hs, Option.bind_some, lit_if (small_Bs (Bs.of _)) (n := clW) (by decide), lit_beq (small_Bs (Bs.of _)) (n := teW) (by decide)]
  by_cases h : (bytesOf x.f0).map smallI = clW
  · rw [if_pos h]
    exact j3_eq (by omega) hn hL hx true fun h => by cases h
  · rw [if_neg h]
    exact j3_eq (by omega) hn hL hx _ fun e => ⟨h, of_decide_eq_false e⟩
theorem back_l {code : Int} {L : List S59} {x : S59} (hn : L.length ≤ 10000) (hL : ∀ y ∈ L, y.f0.size ≤ 100000 ∧ y.f1.size ≤ 100000) (hx : x.f0.size ≤ 100000 ∧ x.f1.size ≤ 100000) : ∀ (n : Nat) (p s : List S59) (k : Nat), L = p ++ s → p.length = n → 300200 + n < k →
    newsreellaw29_LengthOrder.l0 k code L s.reverse ((p.length : Int) - 1) x.f0 x.f1 = some true := by
  intro n
  induction n with
  | zero =>
    intro p s k e hp hk
    obtain ⟨k, rfl⟩ : ∃ m, k = m + 1 := ⟨k - 1, by omega⟩
    have : p = [] := List.length_eq_zero_iff.mp hp
    subst this
    have e' : L = s := e
    subst e'
    simp only [newsreellaw29_LengthOrder.l0]
    rw [if_neg (by simp), length_Of_eq code hL (by omega) (by omega), Option.bind_some, length_Of_eq code (l := L.reverse) (fun y hy => hL y (List.mem_reverse.mp hy)) (by simp; omega) (by omega), Option.bind_some, allL_rev, allL_rev, ofL_rev, if_neg (by simp)]
    have : ((ofL code (allL teW L) (allL clW L)).2.2 != (ofL code (allL teW L) (allL clW L)).2.2) = false := by simp
    rw [this]
    exact j2_eq (by omega) hn hL hx
  | succ n ih =>
    intro p s k e hp hk
    obtain ⟨k, rfl⟩ : ∃ m, k = m + 1 := ⟨k - 1, by omega⟩
    rcases List.eq_nil_or_concat p with h | ⟨q, y, h⟩
    · subst h; simp at hp
    · have h' : p = q ++ [y] := by simpa using h
      subst h'
      have hq : q.length = n := by simp at hp; exact hp
      have hlen : L.length = q.length + (s.length + 1) := by rw [e]; simp
      have hr : rd_T59 L (q.length : Int) = y := by rw [e, List.append_assoc]; exact rdF_app q s y
      have hi := ih q (y :: s) k (by simpa using e) hq (by omega)
      rw [List.reverse_cons] at hi
      have hcast : ((((q ++ [y]).length : Nat) : Int) - 1) = (q.length : Int) := by simp
      rw [hcast]
      simp only [newsreellaw29_LengthOrder.l0]
      have e1 : ([(⟨y.f0, y.f1⟩ : S59)] : List S59) = [y] := rfl
      rw [if_pos (by omega), if_pos (by omega), if_pos (by omega), hr, Option.bind_some, e1, if_pos (by simp; omega), w64 (by omega) (by omega)]
      exact hi
theorem LengthOrder : newsreellaw29_LengthOrder.Pure := by
  intro code l x hc hl hx
  refine ⟨400000, ?_⟩
  unfold newsreellaw29_LengthOrder.f
  obtain ⟨b, hb, hfew⟩ := few_eq (k := 400000) (l := l) (by decide)
  obtain ⟨c, hc, hfew2⟩ := few_eq (k := 400000) (l := [x]) (by decide)
  have e1 : ([(⟨x.f0, x.f1⟩ : S59)] : List S59) = [x] := rfl
  rw [hb, Option.bind_some, e1, hc, Option.bind_some]
  have hj : ∀ y, newsreellaw29_LengthOrder.j0 400000 code l true x.f0 y = some true := fun y => by
    show newsreellaw29_LengthOrder.j0 (399999 + 1) code l true x.f0 y = some true
    simp only [newsreellaw29_LengthOrder.j0]
    rw [if_pos True.intro, awake_eq (by decide), Option.bind_some]
  by_cases h : b = true
  · obtain ⟨hn, hL⟩ := hfew h
    rw [if_pos h]
    cases c with
    | false => exact hj _
    | true =>
      obtain ⟨_, hL2⟩ := hfew2 rfl
      have hnn : l.length ≤ 10000 := few_len (k := 400000) (by rw [hb, h])
      show newsreellaw29_LengthOrder.j0 (399999 + 1) code l (!true) x.f0 x.f1 = some true
      simp only [newsreellaw29_LengthOrder.j0]
      rw [if_neg (by decide), w64 (by omega) (by omega)]
      exact back_l hnn hL (hL2 x (by simp)) l.length l [] 399999 (by simp) rfl (by omega)
  · rw [if_neg h]
    exact hj _
end Go.Proofs.Ytolnmgpokehkoaa.Pure
