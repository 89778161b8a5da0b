import Derived.Test.YthngjcllfkoihaaDoorKit
import Derived.Lib.Bytealg
namespace Go.Proofs.YthngjcllfkoihaaDoor.Str
open Go Go.RowKit Go.Proofs.YthngjcllfkoihaaDoorW.PrintWords Go.Proofs.YthngjcllfkoihaaDoor.Kit
/-! Strings as lists of whole numbers. -/
def Bs (l : List Int) : Prop := ∀ x ∈ l, 0 ≤ x ∧ x < 256
theorem Bs.nil : Bs [] := fun _ h => by cases h
theorem Bs.cons {c : Int} {l : List Int} (h : 0 ≤ c ∧ c < 256) (hl : Bs l) : Bs (c :: l) := fun x hx => by
  rcases List.mem_cons.mp hx with rfl | hx
  · exact h
  · exact hl x hx
theorem Bs.head {c : Int} {l : List Int} (h : Bs (c :: l)) : 0 ≤ c ∧ c < 256 := h c (List.mem_cons_self ..)
theorem Bs.tail {c : Int} {l : List Int} (h : Bs (c :: l)) : Bs l := fun x hx => h x (List.mem_cons_of_mem _ hx)
theorem Bs.app {a b : List Int} (ha : Bs a) (hb : Bs b) : Bs (a ++ b) := fun x hx => (List.mem_append.mp hx).elim (ha x) (hb x)
theorem Bs.left {a b : List Int} (h : Bs (a ++ b)) : Bs a := fun x hx => h x (List.mem_append_left _ hx)
theorem Bs.right {a b : List Int} (h : Bs (a ++ b)) : Bs b := fun x hx => h x (List.mem_append_right _ hx)
theorem Bs.take {l : List Int} (h : Bs l) (n : Nat) : Bs (l.take n) := fun x hx => h x (List.mem_of_mem_take hx)
theorem Bs.drop {l : List Int} (h : Bs l) (n : Nat) : Bs (l.drop n) := fun x hx => h x (List.mem_of_mem_drop hx)
theorem Bs.of (s : ByteArray) : Bs (bytesOf s) := fun _ h => bytesOf_mem h
theorem Bs.dec {l : List Int} (h : l.all (fun x => decide (0 ≤ x ∧ x < 256)) = true) : Bs l := fun x hx => by
  have := List.all_eq_true.mp h x hx
  simpa using this
theorem nums_of {l : List Int} (h : Bs l) : bytesOf (strOfNums l) = l := bytesOf_nums h
theorem nums_ext (l : List Int) (a b : Nat) : (strOfNums l).extract a b = strOfNums ((l.take b).drop a) := by
  refine ext_data ?_
  simp [strOfNums, ByteArray.data_extract, List.map_drop, List.map_take, List.extract_eq_drop_take']
theorem nums_bt {l : List Int} (h : Bs l) (i : Int) : bt (strOfNums l) i = rd l i := by rw [bt_list, nums_of h]
theorem nums_eq {l m : List Int} (hl : Bs l) (hm : Bs m) : ((strOfNums l).toList = (strOfNums m).toList) = (l = m) := by
  rw [toList_iff, nums_of hl, nums_of hm]
theorem nums_lit {l : List Int} (hl : Bs l) (m : List UInt8) : ((strOfNums l).toList = m) = (l = m.map fun b => (b.toNat : Int)) := by
  rw [toList_lit, nums_of hl]
theorem nums_ifl {α : Sort _} {l : List Int} (hl : Bs l) (m : List UInt8) (x y : α) : (if (strOfNums l).toList = m then x else y) = if l = m.map (fun b => (b.toNat : Int)) then x else y := by
  by_cases h : l = m.map fun b => (b.toNat : Int)
  · rw [if_pos h, if_pos ((nums_lit hl m).mpr h)]
  · rw [if_neg h, if_neg fun e => h ((nums_lit hl m).mp e)]
theorem nums_beq {l m : List Int} (hl : Bs l) (hm : Bs m) : ((strOfNums l).toList == (strOfNums m).toList) = decide (l = m) := by
  by_cases h : l = m
  · subst h; simp
  · rw [decide_eq_false h]
    exact beq_eq_false_iff_ne.mpr fun e => h ((nums_eq hl hm).mp e)
theorem rd_app (p t : List Int) (c : Int) : rd (p ++ c :: t) (p.length : Int) = c := rd_mid p t c rfl
/-- The place of a byte, as the shelf's word. -/
theorem index_cons (c : Int) (x : Int) (l : List Int) (hx : 0 ≤ x ∧ x < 256) (hc : 0 ≤ c ∧ c < 256) :
    Lib.indexByte ((x :: l).map fun y => y.toNat.toUInt8) c.toNat.toUInt8 = if x = c then 0 else if Lib.indexByte (l.map fun y => y.toNat.toUInt8) c.toNat.toUInt8 = -1 then -1 else Lib.indexByte (l.map fun y => y.toNat.toUInt8) c.toNat.toUInt8 + 1 := by
  rw [List.map_cons, Lib.indexByte]
  have : (x.toNat.toUInt8 == c.toNat.toUInt8) = decide (x = c) := by
    by_cases h : x = c
    · subst h; simp
    · rw [decide_eq_false h, beq_eq_false_iff_ne]
      intro e
      have := congrArg UInt8.toNat e
      simp only [Nat.toUInt8, UInt8.toNat_ofNat'] at this
      omega
  rw [this]
  by_cases h : x = c
  · simp [h]
  · simp [h]
/-- A list, cut at the first c. -/
def cutL (c : Int) : List Int → Option (List Int × List Int)
  | [] => none
  | x :: l => if x = c then some ([], l) else (cutL c l).map fun p => (x :: p.1, p.2)
theorem cutL_some {c : Int} : ∀ {l a b : List Int}, cutL c l = some (a, b) → l = a ++ c :: b ∧ ∀ x ∈ a, x ≠ c
  | [], _, _, h => by cases h
  | x :: l, a, b, h => by
    unfold cutL at h
    split at h
    · rename_i hx
      cases h
      exact ⟨by rw [hx]; rfl, fun _ h => by cases h⟩
    · rename_i hx
      obtain ⟨⟨a', b'⟩, h1, h2⟩ := Option.map_eq_some_iff.mp h
      cases h2
      obtain ⟨e, hn⟩ := cutL_some h1
      refine ⟨by rw [e]; rfl, fun y hy => ?_⟩
      rcases List.mem_cons.mp hy with rfl | hy
      · exact hx
      · exact hn y hy
theorem cutL_app {c : Int} : ∀ {a : List Int} (b : List Int), (∀ x ∈ a, x ≠ c) → cutL c (a ++ c :: b) = some (a, b)
  | [], b, _ => by simp [cutL]
  | x :: a, b, h => by
    rw [List.cons_append, cutL, if_neg (h x (List.mem_cons_self ..)), cutL_app b fun y hy => h y (List.mem_cons_of_mem _ hy)]
    rfl
theorem index_cut (c : Int) (hc : 0 ≤ c ∧ c < 256) : ∀ (l : List Int), Bs l → Lib.indexByte (l.map fun y => y.toNat.toUInt8) c.toNat.toUInt8 = match cutL c l with | none => -1 | some (a, _) => (a.length : Int)
  | [], _ => rfl
  | x :: l, h => by
    rw [index_cons c x l h.head hc, index_cut c hc l h.tail, cutL]
    by_cases hx : x = c
    · rw [if_pos hx, if_pos hx]; rfl
    · rw [if_neg hx, if_neg hx]
      cases hq : cutL c l with
      | none => rfl
      | some p =>
        obtain ⟨a, b⟩ := p
        simp only [Option.map_some]
        rw [if_neg (by omega)]
        simp
theorem nums_data (l : List Int) : (strOfNums l).data.toList = l.map fun y => y.toNat.toUInt8 := by simp [strOfNums]
theorem nums_index (c : Int) (hc : 0 ≤ c ∧ c < 256) {l : List Int} (h : Bs l) : Lib.indexByte (strOfNums l).data.toList c.toNat.toUInt8 = match cutL c l with | none => -1 | some (a, _) => (a.length : Int) := by
  rw [nums_data, index_cut c hc l h]
end Go.Proofs.YthngjcllfkoihaaDoor.Str

