/-
  No cell of these rows narrows 'for every input' (looked for: loops, veiled, ifaces, maps, wideKeys, modest, calm, conditions, laid).
  DERIVED. THE GIVEN ROWS OF THIS SEAT. 6 by the template 'for every input the law returns true; each argument reads behind the call as it read before'; 0 by the template 'total and deterministic' (their statements: YtolnmgpokehkoaaTotals.lean).
  GIVEN WITH THE SEED: the statements are not yours to turn. If you find one false, say at which input.
  Laid BY PROGRAM, IN A SANDBOX (cutbox-rows.mjs): the forced cells as the released guide's own fill.sh prints them over the translation 500787eaa1f0b009… (all of the seat's roots in one cut). By AI agents, Wed Nov 11 2026. No macro, syntax, notation, axiom, sorry.
-/
import Derived.Test.YtolnmgpokehkoaaChecked
import GoSem.Claim
import GoSem.ClaimJoined
import GoSem.ClaimMapViews
import Derived.JoinedTies
import Derived.KernelRfl
namespace Go.Proofs.Ytolnmgpokehkoaa
/- THE CELL 'sum', in the pinned program and in every row, IS THE sha256 OF THE DUMP (.gsa) THAT YtolnmgpokehkoaaProg.lean LOADS. Nothing in Lean hashes anything: it is a label: what it is worth is what the hold of that sum in a sandbox is worth. -/
noncomputable def Try.pinned : Pinned := { name := "ytolnmgpokehkoaa", sum := "500787eaa1f0b0090b7011aa651c0e302ff5cf14a48168cbdf8e28ff4cce6219", checked := Try.checked }
namespace Rows
def none {H : Type} : Left H := { results := [], args := [] }

/-- 'newsreellaw40.QuotaTells': WHATEVER THE INPUT: true; the input reads as it did. -/
def quotaTellsSpec : ChangeSpec := { name := "quotaTells", fn := fun _ => fun
  | [d1, d2, d3] => { results := [.lit (.bool true)], args := [d1, d2, d3] }
  | _ => none }
def quotaTellsRow : OpenClaim := { program := "ytolnmgpokehkoaa", sum := "500787eaa1f0b0090b7011aa651c0e302ff5cf14a48168cbdf8e28ff4cce6219", func := "newsreel/newsreellaw40.QuotaTells", spec := "quotaTells", unfollowed := true, recurses := true, apart := false }
def QuotaTellsSaid : Prop := quotaTellsRow.holds Try.pinned (OpenSpec.ofChange quotaTellsSpec)

/-- ITS FALSE NEIGHBOUR: 'it returns false'. Refute it at one input. -/
def quotaTellsWrong : ChangeSpec := { name := "quotaTells", fn := fun _ => fun
  | [d1, d2, d3] => { results := [.lit (.bool false)], args := [d1, d2, d3] }
  | _ => none }
def QuotaTellsWrongFalsely : Prop := quotaTellsRow.holds Try.pinned (OpenSpec.ofChange quotaTellsWrong)

/-- 'newsreellaw40.QuotaKeeps': WHATEVER THE INPUT: true; the input reads as it did. -/
def quotaKeepsSpec : ChangeSpec := { name := "quotaKeeps", fn := fun _ => fun
  | [d1, d2, d3] => { results := [.lit (.bool true)], args := [d1, d2, d3] }
  | _ => none }
def quotaKeepsRow : OpenClaim := { program := "ytolnmgpokehkoaa", sum := "500787eaa1f0b0090b7011aa651c0e302ff5cf14a48168cbdf8e28ff4cce6219", func := "newsreel/newsreellaw40.QuotaKeeps", spec := "quotaKeeps", unfollowed := true, recurses := true, apart := false }
def QuotaKeepsSaid : Prop := quotaKeepsRow.holds Try.pinned (OpenSpec.ofChange quotaKeepsSpec)

/-- ITS FALSE NEIGHBOUR: 'it returns false'. Refute it at one input. -/
def quotaKeepsWrong : ChangeSpec := { name := "quotaKeeps", fn := fun _ => fun
  | [d1, d2, d3] => { results := [.lit (.bool false)], args := [d1, d2, d3] }
  | _ => none }
def QuotaKeepsWrongFalsely : Prop := quotaKeepsRow.holds Try.pinned (OpenSpec.ofChange quotaKeepsWrong)

/-- 'newsreellaw51.TidyTells': WHATEVER THE INPUT: true; the input reads as it did. -/
def tidyTellsSpec : ChangeSpec := { name := "tidyTells", fn := fun _ => fun
  | [d1, d2] => { results := [.lit (.bool true)], args := [d1, d2] }
  | _ => none }
def tidyTellsRow : OpenClaim := { program := "ytolnmgpokehkoaa", sum := "500787eaa1f0b0090b7011aa651c0e302ff5cf14a48168cbdf8e28ff4cce6219", func := "newsreel/newsreellaw51.TidyTells", spec := "tidyTells", recurses := true, apart := false }
def TidyTellsSaid : Prop := tidyTellsRow.holds Try.pinned (OpenSpec.ofChange tidyTellsSpec)

/-- ITS FALSE NEIGHBOUR: 'it returns false'. Refute it at one input. -/
def tidyTellsWrong : ChangeSpec := { name := "tidyTells", fn := fun _ => fun
  | [d1, d2] => { results := [.lit (.bool false)], args := [d1, d2] }
  | _ => none }
def TidyTellsWrongFalsely : Prop := tidyTellsRow.holds Try.pinned (OpenSpec.ofChange tidyTellsWrong)

/-- 'newsreellaw51.TidyOnce': WHATEVER THE INPUT: true; the input reads as it did. -/
def tidyOnceSpec : ChangeSpec := { name := "tidyOnce", fn := fun _ => fun
  | [d1, d2] => { results := [.lit (.bool true)], args := [d1, d2] }
  | _ => none }
def tidyOnceRow : OpenClaim := { program := "ytolnmgpokehkoaa", sum := "500787eaa1f0b0090b7011aa651c0e302ff5cf14a48168cbdf8e28ff4cce6219", func := "newsreel/newsreellaw51.TidyOnce", spec := "tidyOnce", recurses := true, apart := false }
def TidyOnceSaid : Prop := tidyOnceRow.holds Try.pinned (OpenSpec.ofChange tidyOnceSpec)

/-- ITS FALSE NEIGHBOUR: 'it returns false'. Refute it at one input. -/
def tidyOnceWrong : ChangeSpec := { name := "tidyOnce", fn := fun _ => fun
  | [d1, d2] => { results := [.lit (.bool false)], args := [d1, d2] }
  | _ => none }
def TidyOnceWrongFalsely : Prop := tidyOnceRow.holds Try.pinned (OpenSpec.ofChange tidyOnceWrong)

/-- 'newsreellaw29.LengthTells': WHATEVER THE INPUT: true; the input reads as it did. -/
def lengthTellsSpec : ChangeSpec := { name := "lengthTells", fn := fun _ => fun
  | [d1, d2] => { results := [.lit (.bool true)], args := [d1, d2] }
  | _ => none }
def lengthTellsRow : OpenClaim := { program := "ytolnmgpokehkoaa", sum := "500787eaa1f0b0090b7011aa651c0e302ff5cf14a48168cbdf8e28ff4cce6219", func := "newsreel/newsreellaw29.LengthTells", spec := "lengthTells", unfollowed := true, recurses := true, apart := false }
def LengthTellsSaid : Prop := lengthTellsRow.holds Try.pinned (OpenSpec.ofChange lengthTellsSpec)

/-- ITS FALSE NEIGHBOUR: 'it returns false'. Refute it at one input. -/
def lengthTellsWrong : ChangeSpec := { name := "lengthTells", fn := fun _ => fun
  | [d1, d2] => { results := [.lit (.bool false)], args := [d1, d2] }
  | _ => none }
def LengthTellsWrongFalsely : Prop := lengthTellsRow.holds Try.pinned (OpenSpec.ofChange lengthTellsWrong)

/-- 'newsreellaw29.LengthOrder': WHATEVER THE INPUT: true; the input reads as it did. -/
def lengthOrderSpec : ChangeSpec := { name := "lengthOrder", fn := fun _ => fun
  | [d1, d2, d3] => { results := [.lit (.bool true)], args := [d1, d2, d3] }
  | _ => none }
def lengthOrderRow : OpenClaim := { program := "ytolnmgpokehkoaa", sum := "500787eaa1f0b0090b7011aa651c0e302ff5cf14a48168cbdf8e28ff4cce6219", func := "newsreel/newsreellaw29.LengthOrder", spec := "lengthOrder", unfollowed := true, recurses := true, apart := false }
def LengthOrderSaid : Prop := lengthOrderRow.holds Try.pinned (OpenSpec.ofChange lengthOrderSpec)

/-- ITS FALSE NEIGHBOUR: 'it returns false'. Refute it at one input. -/
def lengthOrderWrong : ChangeSpec := { name := "lengthOrder", fn := fun _ => fun
  | [d1, d2, d3] => { results := [.lit (.bool false)], args := [d1, d2, d3] }
  | _ => none }
def LengthOrderWrongFalsely : Prop := lengthOrderRow.holds Try.pinned (OpenSpec.ofChange lengthOrderWrong)

/- THE SECOND FORM. 'bulk': how many values and letters a reading holds, each counted each time it is reached (what is shared counts as often as it is met; a slice's spare places count too). A statement '..UptoSaid' is the law's where the arguments, and the package variables that the reading takes, are together of bulk at most 1048576: NARROWER than '..Said'. Prove '..Said' where nothing that the law and all that it calls make is longer than what came in: it says more and counts as full. Else prove '..UptoSaid'. A law counts once. -/
mutual
def uptoBulk {H : Type} : DataW H → Nat
  | .lit (.string bytes) => bytes.length + 1
  | .lit _ => 1
  | .nil => 1
  | .ptr d => uptoBulk d + 1
  | .slice elems spare => uptoBulkAll elems + uptoBulkAll spare + 1
  | .agg parts => uptoBulkAll parts + 1
  | .iface _ d => uptoBulk d + 1
  | .map entries => uptoBulkEntries entries + 1
  | .held _ => 1
def uptoBulkAll {H : Type} : List (DataW H) → Nat
  | [] => 0
  | d :: r => uptoBulk d + uptoBulkAll r
def uptoBulkEntries {H : Type} : List (Lit × DataW H) → Nat
  | [] => 0
  | x :: r => uptoBulkEntry x + uptoBulkEntries r
def uptoBulkEntry {H : Type} : Lit × DataW H → Nat
  | (.string bytes, d) => bytes.length + uptoBulk d + 1
  | (_, d) => uptoBulk d + 1
 end
def uptoSmall : (H : Type) → List (DataW H) → Bool := fun _ ds => decide (uptoBulkAll ds ≤ 1048576)
def OpenSpec.upto (s : _root_.Go.ChangeSpec) : _root_.Go.OpenSpec := { _root_.Go.OpenSpec.ofChange s with cond := some uptoSmall }

/-- 'newsreellaw40.QuotaTells', WHERE WHAT IT READS IS OF BULK AT MOST 1048576: true; the input reads as it did. -/
def quotaTellsUptoRow : OpenClaim := { program := "ytolnmgpokehkoaa", sum := "500787eaa1f0b0090b7011aa651c0e302ff5cf14a48168cbdf8e28ff4cce6219", func := "newsreel/newsreellaw40.QuotaTells", spec := "quotaTells", unfollowed := true, recurses := true, apart := false, narrowed := true }
def QuotaTellsUptoSaid : Prop := quotaTellsUptoRow.holds Try.pinned (OpenSpec.upto quotaTellsSpec)

/-- 'newsreellaw40.QuotaKeeps', WHERE WHAT IT READS IS OF BULK AT MOST 1048576: true; the input reads as it did. -/
def quotaKeepsUptoRow : OpenClaim := { program := "ytolnmgpokehkoaa", sum := "500787eaa1f0b0090b7011aa651c0e302ff5cf14a48168cbdf8e28ff4cce6219", func := "newsreel/newsreellaw40.QuotaKeeps", spec := "quotaKeeps", unfollowed := true, recurses := true, apart := false, narrowed := true }
def QuotaKeepsUptoSaid : Prop := quotaKeepsUptoRow.holds Try.pinned (OpenSpec.upto quotaKeepsSpec)

/-- 'newsreellaw51.TidyTells', WHERE WHAT IT READS IS OF BULK AT MOST 1048576: true; the input reads as it did. -/
def tidyTellsUptoRow : OpenClaim := { program := "ytolnmgpokehkoaa", sum := "500787eaa1f0b0090b7011aa651c0e302ff5cf14a48168cbdf8e28ff4cce6219", func := "newsreel/newsreellaw51.TidyTells", spec := "tidyTells", recurses := true, apart := false, narrowed := true }
def TidyTellsUptoSaid : Prop := tidyTellsUptoRow.holds Try.pinned (OpenSpec.upto tidyTellsSpec)

/-- 'newsreellaw51.TidyOnce', WHERE WHAT IT READS IS OF BULK AT MOST 1048576: true; the input reads as it did. -/
def tidyOnceUptoRow : OpenClaim := { program := "ytolnmgpokehkoaa", sum := "500787eaa1f0b0090b7011aa651c0e302ff5cf14a48168cbdf8e28ff4cce6219", func := "newsreel/newsreellaw51.TidyOnce", spec := "tidyOnce", recurses := true, apart := false, narrowed := true }
def TidyOnceUptoSaid : Prop := tidyOnceUptoRow.holds Try.pinned (OpenSpec.upto tidyOnceSpec)

/-- 'newsreellaw29.LengthTells', WHERE WHAT IT READS IS OF BULK AT MOST 1048576: true; the input reads as it did. -/
def lengthTellsUptoRow : OpenClaim := { program := "ytolnmgpokehkoaa", sum := "500787eaa1f0b0090b7011aa651c0e302ff5cf14a48168cbdf8e28ff4cce6219", func := "newsreel/newsreellaw29.LengthTells", spec := "lengthTells", unfollowed := true, recurses := true, apart := false, narrowed := true }
def LengthTellsUptoSaid : Prop := lengthTellsUptoRow.holds Try.pinned (OpenSpec.upto lengthTellsSpec)

/-- 'newsreellaw29.LengthOrder', WHERE WHAT IT READS IS OF BULK AT MOST 1048576: true; the input reads as it did. -/
def lengthOrderUptoRow : OpenClaim := { program := "ytolnmgpokehkoaa", sum := "500787eaa1f0b0090b7011aa651c0e302ff5cf14a48168cbdf8e28ff4cce6219", func := "newsreel/newsreellaw29.LengthOrder", spec := "lengthOrder", unfollowed := true, recurses := true, apart := false, narrowed := true }
def LengthOrderUptoSaid : Prop := lengthOrderUptoRow.holds Try.pinned (OpenSpec.upto lengthOrderSpec)

end Rows
end Go.Proofs.Ytolnmgpokehkoaa
