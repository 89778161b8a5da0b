import Derived.Test.YtkakmncdmjgojaaDoorKit
import Derived.Lib.Bytealg
namespace Go.Proofs.YtkakmncdmjgojaaDoor.Str
open Go Go.RowKit Go.Proofs.YtkakmncdmjgojaaDoorW.PrintWords Go.Proofs.YtkakmncdmjgojaaDoor.Kit
/-! Strings as lists of whole numbers. -/
def Bs (l : List Int) : Prop := ∀ x ∈ l, 0 ≤ x ∧ x < 256
theorem Bs.nil : Bs [] := fun _ h => by cases h
theorem Bs.cons {c : Int} {l : List Int} (h : 0 ≤ c ∧ c < 256) (hl : Bs l) : Bs (c :: l) := fun x hx => by
  rcases List.mem_cons.mp hx with rfl | hx
  · exact h
  · exact hl x hx
theorem Bs.right {a b : List Int} (h : Bs (a ++ b)) : Bs b := fun x hx => h x (List.mem_append_right _ hx)
theorem Bs.take {l : List Int} (h : Bs l) (n : Nat) : Bs (l.take n) := fun x hx => h x (List.mem_of_mem_take hx)
theorem Bs.drop {l : List Int} (h : Bs l) (n : Nat) : Bs (l.drop n) := fun x hx => h x (List.mem_of_mem_drop hx)
theorem Bs.of (s : ByteArray) : Bs (bytesOf s) := fun _ h => bytesOf_mem h
theorem Bs.dec {l : List Int} (h : l.all (fun x => decide (0 ≤ x ∧ x < 256)) = true) : Bs l := fun x hx => by
  have := List.all_eq_true.mp h x hx
  simpa using this
theorem nums_of {l : List Int} (h : Bs l) : bytesOf (strOfNums l) = l := bytesOf_nums h
theorem nums_bt {l : List Int} (h : Bs l) (i : Int) : bt (strOfNums l) i = rd l i := by rw [bt_list, nums_of h]
theorem rd_app (p t : List Int) (c : Int) : rd (p ++ c :: t) (p.length : Int) = c := rd_mid p t c rfl
theorem nums_data (l : List Int) : (strOfNums l).data.toList = l.map fun y => y.toNat.toUInt8 := by simp [strOfNums]
end Go.Proofs.YtkakmncdmjgojaaDoor.Str

