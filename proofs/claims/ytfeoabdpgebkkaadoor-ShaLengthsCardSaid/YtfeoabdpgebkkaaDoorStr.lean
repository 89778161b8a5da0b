import Derived.Test.YtfeoabdpgebkkaaDoorKit
import Derived.Lib.Bytealg
namespace Go.Proofs.YtfeoabdpgebkkaaDoor.Str
open Go Go.RowKit Go.Proofs.YtfeoabdpgebkkaaDoorW.PrintWords Go.Proofs.YtfeoabdpgebkkaaDoor.Kit
/-! Strings as lists of whole numbers. -/
def Bs (l : List Int) : Prop := ∀ x ∈ l, 0 ≤ x ∧ x < 256
theorem Bs.nil : Bs [] := fun _ h => by cases h
theorem Bs.cons {c : Int} {l : List Int} (h : 0 ≤ c ∧ c < 256) (hl : Bs l) : Bs (c :: l) := fun x hx => by
  rcases List.mem_cons.mp hx with rfl | hx
  · exact h
  · exact hl x hx
theorem Bs.app {a b : List Int} (ha : Bs a) (hb : Bs b) : Bs (a ++ b) := fun x hx => (List.mem_append.mp hx).elim (ha x) (hb x)
theorem Bs.left {a b : List Int} (h : Bs (a ++ b)) : Bs a := fun x hx => h x (List.mem_append_left _ hx)
theorem Bs.right {a b : List Int} (h : Bs (a ++ b)) : Bs b := fun x hx => h x (List.mem_append_right _ hx)
theorem Bs.take {l : List Int} (h : Bs l) (n : Nat) : Bs (l.take n) := fun x hx => h x (List.mem_of_mem_take hx)
theorem Bs.drop {l : List Int} (h : Bs l) (n : Nat) : Bs (l.drop n) := fun x hx => h x (List.mem_of_mem_drop hx)
theorem Bs.of (s : ByteArray) : Bs (bytesOf s) := fun _ h => bytesOf_mem h
theorem Bs.dec {l : List Int} (h : l.all (fun x => decide (0 ≤ x ∧ x < 256)) = true) : Bs l := fun x hx => by
  have := List.all_eq_true.mp h x hx
  simpa using this
end Go.Proofs.YtfeoabdpgebkkaaDoor.Str

