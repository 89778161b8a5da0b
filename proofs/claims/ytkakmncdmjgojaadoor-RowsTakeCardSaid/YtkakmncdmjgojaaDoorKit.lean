import Derived.Test.YtkakmncdmjgojaaDoorWMore
import Derived.Laws.BitsLemmas
import Derived.KernelRfl
import Derived.Lib.Bytes
namespace Go.Proofs.YtkakmncdmjgojaaDoor.Kit
open Go Go.RowKit Go.Proofs.YtkakmncdmjgojaaDoorW.PrintWords

theorem w64 {x : Int} (h : -9223372036854775808 ≤ x) (h' : x < 9223372036854775808) : wrap64 x = x := by unfold wrap64; omega
theorem wrap_i64 (n : Int) : IntKind.i64.wrap n = wrap64 n := by rw [IntKind.wrap_i64]; unfold wrap64; rfl
theorem rd_mid (p t : List Int) (c : Int) {i : Int} (h : i = p.length) : rd (p ++ c :: t) i = c := by
  subst h; simp [rd]
theorem toList_data (s : ByteArray) : s.toList = s.data.toList := ByteArray.toList_eq s
theorem ext_data {s t : ByteArray} (h : s.data.toList = t.data.toList) : s = t := by
  cases s with | mk a => cases t with | mk b => simp only at h; rw [Array.toList_inj.mp h]
/-! ### strings as lists of whole numbers -/
theorem bytesOf_mem {s : ByteArray} {x : Int} (h : x ∈ bytesOf s) : 0 ≤ x ∧ x < 256 := by
  unfold bytesOf at h
  obtain ⟨b, _, rfl⟩ := List.mem_map.mp h
  have := b.toNat_lt
  omega
theorem bt_list (s : ByteArray) (i : Int) : bt s i = rd (bytesOf s) i := (rd_bytesOf s i).symm
theorem size_list (s : ByteArray) : s.size = (bytesOf s).length := (bytesOf_length s).symm
theorem bytesOf_inj {s t : ByteArray} (h : bytesOf s = bytesOf t) : s = t := by
  refine ext_data ?_
  unfold bytesOf at h
  refine (List.map_inj_right (fun x y hxy => ?_)).mp h
  have : x.toNat = y.toNat := by omega
  exact UInt8.toNat_inj.mp this
theorem bytesOf_nums {l : List Int} (h : ∀ x ∈ l, 0 ≤ x ∧ x < 256) : bytesOf (strOfNums l) = l := by
  unfold bytesOf strOfNums
  simp only [List.map_map]
  refine (List.map_congr_left fun x hx => ?_).trans (List.map_id l)
  have := h x hx
  simp only [Function.comp, UInt8.toNat_ofNat', id]
  omega
theorem nums_bytesOf (s : ByteArray) : strOfNums (bytesOf s) = s := bytesOf_inj (bytesOf_nums fun _ h => bytesOf_mem h)
theorem nums_size (l : List Int) : (strOfNums l).size = l.length := by simp [strOfNums, ByteArray.size]
end Go.Proofs.YtkakmncdmjgojaaDoor.Kit

