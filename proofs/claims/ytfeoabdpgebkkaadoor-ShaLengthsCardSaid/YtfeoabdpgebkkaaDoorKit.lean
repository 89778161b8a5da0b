import Derived.Test.YtfeoabdpgebkkaaDoorWMore
import Derived.Laws.BitsLemmas
import Derived.KernelRfl
import Derived.Lib.Bytes
namespace Go.Proofs.YtfeoabdpgebkkaaDoor.Kit
open Go Go.RowKit Go.Proofs.YtfeoabdpgebkkaaDoorW.PrintWords

theorem wfb {k : IntKind} {x : Int} (h : (Lit.int k x).wf = true) : k.min ≤ x ∧ x ≤ k.max := by
  simpa [Lit.wf, Bool.and_eq_true] using h
theorem wf_u8 {x : Int} (h : (Lit.int .u8 x).wf = true) : 0 ≤ x ∧ x < 256 := by
  have := wfb h; simp [IntKind.min, IntKind.max, IntKind.signed, IntKind.bits] at this; omega
theorem wf_u16 {x : Int} (h : (Lit.int .u16 x).wf = true) : 0 ≤ x ∧ x < 65536 := by
  have := wfb h; simp [IntKind.min, IntKind.max, IntKind.signed, IntKind.bits] at this; omega
theorem w64 {x : Int} (h : -9223372036854775808 ≤ x) (h' : x < 9223372036854775808) : wrap64 x = x := by unfold wrap64; omega
theorem wrap_u64 (n : Int) : IntKind.u64.wrap n = n % 18446744073709551616 := by simp [IntKind.wrap, IntKind.bits, IntKind.signed]
theorem wrap_i64 (n : Int) : IntKind.i64.wrap n = wrap64 n := by rw [IntKind.wrap_i64]; unfold wrap64; rfl
theorem wraps_u32 (n : Int) (h₀ : 0 ≤ n) (h₁ : n < 2 ^ 32) : IntKind.u32.wrap n = n := by rw [IntKind.wrap_u32]; omega
theorem wu64 {n : Int} (h₀ : 0 ≤ n) (h₁ : n < 18446744073709551616) : IntKind.u64.wrap n = n := by rw [wrap_u64]; omega

/-! ### strings as lists of whole numbers -/
theorem bytesOf_mem {s : ByteArray} {x : Int} (h : x ∈ bytesOf s) : 0 ≤ x ∧ x < 256 := by
  unfold bytesOf at h
  obtain ⟨b, _, rfl⟩ := List.mem_map.mp h
  have := b.toNat_lt
  omega
end Go.Proofs.YtfeoabdpgebkkaaDoor.Kit

