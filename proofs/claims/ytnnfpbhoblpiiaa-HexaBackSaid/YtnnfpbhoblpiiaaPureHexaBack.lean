/- The law HexaBack is true for every input: what is put is got, two digits a byte; what is got, put, is the text, small. No condition beyond the row's own. -/
import Derived.Test.YtnnfpbhoblpiiaaPHexaBackx2
import Derived.Test.YtnnfpbhoblpiiaaStr
set_option linter.unusedVariables false
set_option linter.unusedSimpArgs false
namespace Go.Proofs.Ytnnfpbhoblpiiaa.Pure
open Go Go.RowKit Go.Proofs.Ytnnfpbhoblpiiaa.PHexaBack Go.Proofs.YtnnfpbhoblpiiaaW.PrintWords Go.Proofs.YtnnfpbhoblpiiaaW.PrintLast Go.Proofs.YtnnfpbhoblpiiaaW.PrintMore Go.Proofs.Ytnnfpbhoblpiiaa.Kit Go.Proofs.Ytnnfpbhoblpiiaa.Str

/-! ### text: small, Same, Cut -/
def smallI (c : Int) : Int := if 65 ≤ c ∧ c ≤ 90 then c + 32 else c
theorem text_small_eq {c : Int} (h : 0 ≤ c ∧ c < 256) : text_small.f c = some (smallI c) := by
  unfold text_small.f smallI
  by_cases h1 : c ≥ 65
  · by_cases h2 : c ≤ 90
    · rw [if_pos h1, if_pos h2, if_pos ⟨h1, h2⟩]; congr 1; omega
    · rw [if_pos h1, if_neg h2, if_neg (by omega)]
  · rw [if_neg h1, if_neg (by omega)]

theorem ref02_Lower_l {l : List Int} (hl : Bs l) (hn : l.length ≤ 140737488351232) : ∀ (t p : List Int) (k : Nat), l = p ++ t → t.length < k →
    newsreelref02_Lower.l0 k (strOfNums l) (p.map smallI) (p.length : Int) = some (strOfNums ((p ++ t).map smallI)) := by
  intro t
  induction t with
  | nil =>
    intro p k e hk
    obtain ⟨k, rfl⟩ : ∃ m, k = m + 1 := ⟨k - 1, by simp at hk; omega⟩
    simp only [newsreelref02_Lower.l0]
    rw [nums_size, if_neg (by rw [e]; simp), List.append_nil]
  | cons c t ih =>
    intro p k e hk
    obtain ⟨k, rfl⟩ : ∃ m, k = m + 1 := ⟨k - 1, by simp at hk; omega⟩
    have hlen : l.length = p.length + (t.length + 1) := by rw [e]; simp
    have hc : rd l (p.length : Int) = c := by rw [e]; exact rd_app p t c
    have bc : 0 ≤ c ∧ c < 256 := hl c (by rw [e]; simp)
    have hi := ih (p ++ [c]) k (by simpa using e) (by simp at hk; omega)
    have hcast : (((p ++ [c]).length : Nat) : Int) = (p.length : Int) + 1 := by simp
    rw [hcast, List.map_append, List.map_cons, List.map_nil, show p ++ [c] ++ t = p ++ c :: t by simp] at hi
    simp only [newsreelref02_Lower.l0]
    rw [nums_size, nums_bt hl, hc, w64 (by omega) (by omega), List.length_map, if_pos (by omega), if_pos (by omega)]
    unfold smallI at hi ⊢
    by_cases h1 : c ≥ 65
    · by_cases h2 : c ≤ 90
      · rw [if_pos h1, if_pos h2, if_pos (by omega), show (c + 32) % 256 = c + 32 by omega]
        rwa [if_pos ⟨h1, h2⟩] at hi
      · rw [if_pos h1, if_neg h2, if_pos (by omega)]
        rwa [if_neg (show ¬ (65 ≤ c ∧ c ≤ 90) from fun h => h2 h.2)] at hi
    · rw [if_neg h1, if_pos (by omega)]
      rwa [if_neg (show ¬ (65 ≤ c ∧ c ≤ 90) from fun h => h1 h.1)] at hi
theorem ref02_Lower_eq {k : Nat} {l : List Int} (hl : Bs l) (hn : l.length ≤ 140737488351232) (hk : l.length < k) : newsreelref02_Lower.f k (strOfNums l) = some (strOfNums (l.map smallI)) :=
  ref02_Lower_l hl hn l [] k rfl hk

/-! ### hexa -/
def hv (c : Int) : Int := if 48 ≤ c ∧ c ≤ 57 then c - 48 else if 97 ≤ c ∧ c ≤ 102 then c - 87 else if 65 ≤ c ∧ c ≤ 70 then c - 55 else -1
def dg (i : Int) : Int := if i < 10 then 48 + i else 87 + i
theorem all256 {p : Int → Prop} (h : ∀ i : Fin 256, p (i.val : Int)) {c : Int} (hc : 0 ≤ c ∧ c < 256) : p c := by
  obtain ⟨n, rfl⟩ := Int.eq_ofNat_of_zero_le hc.1
  exact h ⟨n, by omega⟩
theorem all16 {p : Int → Prop} (h : ∀ i : Fin 16, p (i.val : Int)) {c : Int} (hc : 0 ≤ c ∧ c < 16) : p c := by
  obtain ⟨n, rfl⟩ := Int.eq_ofNat_of_zero_le hc.1
  exact h ⟨n, by omega⟩
theorem hexa_index {c : Int} (hc : 0 ≤ c ∧ c < 256) : strings_IndexByte.f (⟨#[48, 49, 50, 51, 52, 53, 54, 55, 56, 57, 97, 98, 99, 100, 101, 102]⟩ : ByteArray) (smallI c) = some (hv c) :=
  all256 (p := fun c => strings_IndexByte.f (⟨#[48, 49, 50, 51, 52, 53, 54, 55, 56, 57, 97, 98, 99, 100, 101, 102]⟩ : ByteArray) (smallI c) = some (hv c)) (by decide +kernel) hc
theorem hexa_d {i : Int} (hi : 0 ≤ i ∧ i < 16) : hexa_Put.d i = dg i := all16 (p := fun i => hexa_Put.d i = dg i) (by decide +kernel) hi
theorem hv_bd (c : Int) : -1 ≤ hv c ∧ hv c < 16 := by
  unfold hv
  split
  · omega
  · split
    · omega
    · split <;> omega
theorem hv_dg {i : Int} (hi : 0 ≤ i ∧ i < 16) : hv (dg i) = i := all16 (p := fun i => hv (dg i) = i) (by decide +kernel) hi
theorem dg_hv {c : Int} (hc : 0 ≤ c ∧ c < 256) : 0 ≤ hv c → dg (hv c) = smallI c := all256 (p := fun c => 0 ≤ hv c → dg (hv c) = smallI c) (by decide +kernel) hc
theorem or16 {a b : Int} (ha : 0 ≤ a ∧ a < 16) (hb : 0 ≤ b ∧ b < 16) : (Go.bits .or .i64 (a * 16) b) % 256 = a * 16 + b := by
  have h : ∀ (i j : Fin 16), (Go.bits .or .i64 ((i.val : Int) * 16) (j.val : Int)) % 256 = (i.val : Int) * 16 + (j.val : Int) := by decide +kernel
  obtain ⟨n, rfl⟩ := Int.eq_ofNat_of_zero_le ha.1
  obtain ⟨m, rfl⟩ := Int.eq_ofNat_of_zero_le hb.1
  exact h ⟨n, by omega⟩ ⟨m, by omega⟩
theorem lower_sm {c : Int} (hc : 0 ≤ c ∧ c < 256) : text_Lower.sm c = smallI c := by
  unfold text_Lower.sm
  rw [text_small_eq hc]
  rfl
theorem text_Lower_eq {l : List Int} (hl : Bs l) (hn : l.length ≤ 140737488351232) : text_Lower.f (strOfNums l) = some (strOfNums (l.map smallI)) := by
  unfold text_Lower.f
  rw [nums_size, if_pos hn, nums_of hl]
  congr 2
  exact List.map_congr_left fun c hc => lower_sm (hl c hc)
def getH : List Int → Option (List Int)
  | [] => some []
  | [_] => none
  | a :: b :: t => if hv a < 0 ∨ hv b < 0 then none else (getH t).map fun r => (hv a * 16 + hv b) :: r
def resH (acc : List Int) : Option (List Int) → List Int × Int
  | none => ([], 2)
  | some r => (acc ++ r, 0)
theorem getH_odd : ∀ (n : Nat) (l : List Int), l.length = 2 * n + 1 → getH l = none
  | 0, l, h => by
    match l, h with
    | [_], _ => rfl
  | n + 1, l, h => by
    match l, h with
    | a :: b :: t, h =>
      rw [getH, getH_odd n t (by simp at h; omega)]
      split <;> rfl
theorem smallI_Bs {l : List Int} (h : Bs l) : Bs (l.map smallI) := by
  intro x hx
  obtain ⟨y, hy, rfl⟩ := List.mem_map.mp hx
  have := h y hy
  unfold smallI
  split <;> omega
theorem hexa_Get_l {l : List Int} (hl : Bs l) (hn : l.length ≤ 100000) : ∀ (n : Nat) (t p acc : List Int) (k : Nat), t.length = 2 * n → l = p ++ t → acc.length ≤ p.length → n < k →
    hexa_Get.l0 k (strOfNums (l.map smallI)) acc (p.length : Int) = some (resH acc (getH t)) := by
  intro n
  induction n with
  | zero =>
    intro t p acc k ht e ha hk
    obtain ⟨k, rfl⟩ : ∃ m, k = m + 1 := ⟨k - 1, by omega⟩
    have : t = [] := List.length_eq_zero_iff.mp (by omega)
    subst this
    have hlen : l.length = p.length := by rw [e, List.append_nil]
    simp only [hexa_Get.l0]
    rw [nums_size, List.length_map, if_neg (by omega)]
    simp [getH, resH]
  | succ n ih =>
    intro t p acc k ht e ha hk
    obtain ⟨k, rfl⟩ : ∃ m, k = m + 1 := ⟨k - 1, by omega⟩
    match t, ht with
    | a :: b :: t, ht =>
      have hlen : l.length = p.length + (t.length + 2) := by rw [e]; simp
      have ba : 0 ≤ a ∧ a < 256 := hl a (by rw [e]; simp)
      have bb : 0 ≤ b ∧ b < 256 := hl b (by rw [e]; simp)
      have r0 : rd (l.map smallI) (p.length : Int) = smallI a := by
        rw [e, List.map_append, List.map_cons]
        have := rd_app (p.map smallI) ((b :: t).map smallI) (smallI a)
        rwa [List.length_map] at this
      have r1 : rd (l.map smallI) ((p.length : Int) + 1) = smallI b := by
        rw [e, show p ++ a :: b :: t = (p ++ [a]) ++ b :: t by simp, List.map_append, List.map_cons]
        have := rd_app ((p ++ [a]).map smallI) (t.map smallI) (smallI b)
        simpa using this
      have va := hv_bd a; have vb := hv_bd b
      simp only [hexa_Get.l0]
      rw [nums_size, List.length_map, if_pos (by omega), if_pos (by omega), nums_bt (smallI_Bs hl), r0, hexa_index ba, Option.bind_some, w64 (x := (p.length : Int) + 1) (by omega) (by omega), if_pos (by omega), if_pos (by omega), nums_bt (smallI_Bs hl), r1, hexa_index bb, Option.bind_some, getH]
      by_cases h1 : hv a < 0
      · rw [if_pos h1, if_pos (Or.inl h1)]; rfl
      · rw [if_neg h1]
        by_cases h2 : hv b < 0
        · rw [if_pos h2, if_pos (Or.inr h2)]; rfl
        · rw [if_neg h2, if_neg (show ¬ (hv a < 0 ∨ hv b < 0) from fun h => h.elim h1 h2), if_pos (by omega), w64 (x := hv a * 16) (by omega) (by omega), or16 (by omega) (by omega), w64 (by omega) (by omega)]
          have := ih t (p ++ [a, b]) (acc ++ [hv a * 16 + hv b]) k (by simp at ht; omega) (by simpa using e) (by simp; omega) (by omega)
          rw [show (((p ++ [a, b]).length : Nat) : Int) = (p.length : Int) + 2 by simp] at this
          rw [this]
          cases getH t <;> simp [resH]
theorem hexa_Get_eq {k : Nat} {l : List Int} (hl : Bs l) (hn : l.length ≤ 100000) (hk : l.length < k) : hexa_Get.f k (strOfNums l) = some (resH [] (getH l)) := by
  unfold hexa_Get.f
  rw [text_Lower_eq hl (by omega), Option.bind_some, nums_size]
  by_cases h : l.length % 2 = 1
  · rw [if_pos (by omega), getH_odd (l.length / 2) l (by omega)]
    rfl
  · rw [if_neg (by omega)]
    exact hexa_Get_l hl hn (l.length / 2) l [] [] k (by omega) rfl (by simp) (by omega)
def putH (l : List Int) : List Int := (l.map fun c => [dg (c / 16), dg (c % 16)]).flatten
theorem hexa_Put_eq {l : List Int} (hl : Bs l) (hn : l.length ≤ 100000) : hexa_Put.f l = some (strOfNums (putH l)) := by
  unfold hexa_Put.f putH
  rw [if_pos ⟨by rw [List.all_eq_true]; intro x hx; simpa using hl x hx, by omega⟩]
  congr 3
  refine List.map_congr_left fun c hc => ?_
  have := hl c hc
  rw [hexa_Put.two, hexa_d (by omega), hexa_d (by omega)]
theorem putH_len (l : List Int) : (putH l).length = 2 * l.length := by
  unfold putH
  induction l with
  | nil => rfl
  | cons c l ih => rw [List.map_cons, List.flatten_cons, List.length_append, ih]; simp; omega
theorem dg_bd {i : Int} (hi : 0 ≤ i ∧ i < 16) : 0 ≤ dg i ∧ dg i < 256 := by unfold dg; split <;> omega
theorem putH_Bs {l : List Int} (hl : Bs l) : Bs (putH l) := by
  intro x hx
  unfold putH at hx
  obtain ⟨m, hm, hxm⟩ := List.mem_flatten.mp hx
  obtain ⟨c, hc, rfl⟩ := List.mem_map.mp hm
  have := hl c hc
  simp only [List.mem_cons, List.not_mem_nil, or_false] at hxm
  rcases hxm with rfl | rfl <;> exact dg_bd (by omega)
theorem get_putH : ∀ {l : List Int}, Bs l → getH (putH l) = some l
  | [], _ => rfl
  | c :: l, h => by
    have hc := h.head
    have ih := get_putH h.tail
    unfold putH at ih ⊢
    rw [List.map_cons, List.flatten_cons]
    simp only [List.cons_append, List.nil_append]
    rw [getH, hv_dg (by omega), hv_dg (by omega), if_neg (by omega), ih]
    simp only [Option.map_some]
    congr 2
    omega
theorem put_getH : ∀ (n : Nat) {l r : List Int}, l.length ≤ n → Bs l → getH l = some r → Bs r ∧ r.length ≤ l.length ∧ putH r = l.map smallI
  | _, [], r, _, _, h => by cases h; exact ⟨Bs.nil, by simp, rfl⟩
  | _, [_], r, _, _, h => by cases h
  | 0, _ :: _ :: _, _, hn, _, _ => by simp at hn
  | n + 1, a :: b :: t, r, hn, hl, h => by
    rw [getH] at h
    split at h
    · cases h
    · rename_i hab
      obtain ⟨q, hq, rfl⟩ := Option.map_eq_some_iff.mp h
      obtain ⟨h1, h2, h3⟩ := put_getH n (by simp at hn; omega) hl.tail.tail hq
      have va := hv_bd a; have vb := hv_bd b
      have ba := hl.head; have bb := hl.tail.head
      refine ⟨Bs.cons (by omega) h1, by simp; omega, ?_⟩
      unfold putH at h3 ⊢
      rw [List.map_cons, List.flatten_cons, h3, show (hv a * 16 + hv b) / 16 = hv a by omega, show (hv a * 16 + hv b) % 16 = hv b by omega, dg_hv ba (by omega), dg_hv bb (by omega)]
      rfl
theorem bytes_eq {a b : List Int} (ha : Bs a) (hb : Bs b) : newsreelref01_Bytes.f a b = some (decide (a = b)) := by
  unfold newsreelref01_Bytes.f
  rw [nums_beq ha hb]

theorem awake_eq {k : Nat} (hk : 300 ≤ k) : newsreellaw03_awake.f k = some true := at_rounds newsreellaw03_awake.mono hk (by kernel_rfl)
theorem HexaBack : newsreellaw03_HexaBack.Pure := by
  intro b s hb hs
  refine ⟨3000, ?_⟩
  have hB : Bs b := fun x hx => wf_u8 (hb.2.2 x hx)
  have haw : newsreellaw03_HexaBack.j0 3000 b s true = some true := by
    simp only [newsreellaw03_HexaBack.j0]
    rw [if_pos True.intro, awake_eq (by decide)]
    rfl
  unfold newsreellaw03_HexaBack.f
  by_cases h1 : (b.length : Int) > 500
  · rw [if_pos h1]; exact haw
  · rw [if_neg h1]
    by_cases h2 : (s.size : Int) > 500
    · rw [show decide ((s.size : Int) > 500) = true from decide_eq_true h2]; exact haw
    · rw [show decide ((s.size : Int) > 500) = false from decide_eq_false h2]
      have hL : (bytesOf s).length ≤ 500 := by rw [← size_list]; omega
      have bs := Bs.of s
      rw [← nums_bytesOf s]
      generalize bytesOf s = L at *
      clear haw h2 hs
      have hpl := putH_len b
      simp only [newsreellaw03_HexaBack.j0]
      rw [if_neg (by decide), hexa_Put_eq hB (by omega), Option.bind_some, hexa_Get_eq (putH_Bs hB) (by omega) (by omega), Option.bind_some, hexa_Get_eq bs (by omega) (by omega), Option.bind_some, get_putH hB]
      simp only [resH, List.nil_append, if_true]
      rw [bytes_eq hB hB, Option.bind_some, if_pos (by simp), Option.bind_some, nums_size, hpl, w64 (by omega) (by omega), if_pos (by omega), awake_eq (by decide), ref02_Lower_eq bs (by omega) (by omega)]
      cases hg : getH L with
      | none => simp
      | some r =>
        obtain ⟨q1, q2, q3⟩ := put_getH L.length (Nat.le_refl _) bs hg
        simp only [List.nil_append, if_true]
        rw [hexa_Put_eq q1 (by omega), Option.bind_some, Option.bind_some, q3, if_pos rfl]
        rfl
end Go.Proofs.Ytnnfpbhoblpiiaa.Pure
