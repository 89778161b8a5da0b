/-
  No cell of these rows narrows 'for every input' (looked for: loops, veiled, ifaces, maps, wideKeys, modest, calm, conditions, laid).
  DERIVED. THE GIVEN ROWS OF THIS SEAT. 6 by the template 'for every input the law returns true; each argument reads behind the call as it read before'; 0 by the template 'total and deterministic' (their statements: YtbncdnkleodciabTotals.lean).
  GIVEN WITH THE SEED: the statements are not yours to turn. If you find one false, say at which input.
  Laid BY PROGRAM, IN A SANDBOX (cutbox-rows.mjs): the forced cells as the released guide's own fill.sh prints them over the translation 663a79d43069fe3b… (all of the seat's roots in one cut). By AI agents, Wed Nov 11 2026. No macro, syntax, notation, axiom, sorry.
-/
import Derived.Test.YtbncdnkleodciabChecked
import GoSem.Claim
import GoSem.ClaimJoined
import GoSem.ClaimMapViews
import Derived.JoinedTies
import Derived.KernelRfl
namespace Go.Proofs.Ytbncdnkleodciab
/- THE CELL 'sum', in the pinned program and in every row, IS THE sha256 OF THE DUMP (.gsa) THAT YtbncdnkleodciabProg.lean LOADS. Nothing in Lean hashes anything: it is a label: what it is worth is what the hold of that sum in a sandbox is worth. -/
noncomputable def Try.pinned : Pinned := { name := "ytbncdnkleodciab", sum := "663a79d43069fe3b977fefa19000d54dd572ded40e64fe062a4034442191c6f0", checked := Try.checked }
namespace Rows
def none {H : Type} : Left H := { results := [], args := [] }

/-- 'newsreellaw40.QuotaKeeps': WHATEVER THE INPUT: true; the input reads as it did. -/
def quotaKeepsSpec : ChangeSpec := { name := "quotaKeeps", fn := fun _ => fun
  | [d1, d2, d3] => { results := [.lit (.bool true)], args := [d1, d2, d3] }
  | _ => none }
def quotaKeepsRow : OpenClaim := { program := "ytbncdnkleodciab", sum := "663a79d43069fe3b977fefa19000d54dd572ded40e64fe062a4034442191c6f0", func := "newsreel/newsreellaw40.QuotaKeeps", spec := "quotaKeeps", unfollowed := true, recurses := true, apart := false }
def QuotaKeepsSaid : Prop := quotaKeepsRow.holds Try.pinned (OpenSpec.ofChange quotaKeepsSpec)

/-- ITS FALSE NEIGHBOUR: 'it returns false'. Refute it at one input. -/
def quotaKeepsWrong : ChangeSpec := { name := "quotaKeeps", fn := fun _ => fun
  | [d1, d2, d3] => { results := [.lit (.bool false)], args := [d1, d2, d3] }
  | _ => none }
def QuotaKeepsWrongFalsely : Prop := quotaKeepsRow.holds Try.pinned (OpenSpec.ofChange quotaKeepsWrong)

/-- 'newsreellaw03.HexaTells': WHATEVER THE INPUT: true; the input reads as it did. -/
def hexaTellsSpec : ChangeSpec := { name := "hexaTells", fn := fun _ => fun
  | [d1, d2] => { results := [.lit (.bool true)], args := [d1, d2] }
  | _ => none }
def hexaTellsRow : OpenClaim := { program := "ytbncdnkleodciab", sum := "663a79d43069fe3b977fefa19000d54dd572ded40e64fe062a4034442191c6f0", func := "newsreel/newsreellaw03.HexaTells", spec := "hexaTells", inPlace := ["internal/bytealg.IndexByteString", "internal/abi.NoEscape"], apart := false }
def HexaTellsSaid : Prop := hexaTellsRow.holds Try.pinned (OpenSpec.ofChange hexaTellsSpec)

/-- ITS FALSE NEIGHBOUR: 'it returns false'. Refute it at one input. -/
def hexaTellsWrong : ChangeSpec := { name := "hexaTells", fn := fun _ => fun
  | [d1, d2] => { results := [.lit (.bool false)], args := [d1, d2] }
  | _ => none }
def HexaTellsWrongFalsely : Prop := hexaTellsRow.holds Try.pinned (OpenSpec.ofChange hexaTellsWrong)

/-- 'newsreellaw03.HexaBack': WHATEVER THE INPUT: true; the input reads as it did. -/
def hexaBackSpec : ChangeSpec := { name := "hexaBack", fn := fun _ => fun
  | [d1, d2] => { results := [.lit (.bool true)], args := [d1, d2] }
  | _ => none }
def hexaBackRow : OpenClaim := { program := "ytbncdnkleodciab", sum := "663a79d43069fe3b977fefa19000d54dd572ded40e64fe062a4034442191c6f0", func := "newsreel/newsreellaw03.HexaBack", spec := "hexaBack", inPlace := ["internal/bytealg.IndexByteString", "internal/abi.NoEscape"], apart := false }
def HexaBackSaid : Prop := hexaBackRow.holds Try.pinned (OpenSpec.ofChange hexaBackSpec)

/-- ITS FALSE NEIGHBOUR: 'it returns false'. Refute it at one input. -/
def hexaBackWrong : ChangeSpec := { name := "hexaBack", fn := fun _ => fun
  | [d1, d2] => { results := [.lit (.bool false)], args := [d1, d2] }
  | _ => none }
def HexaBackWrongFalsely : Prop := hexaBackRow.holds Try.pinned (OpenSpec.ofChange hexaBackWrong)

/-- 'newsreellaw27.EtagTells': WHATEVER THE INPUT: true; the input reads as it did. -/
def etagTellsSpec : ChangeSpec := { name := "etagTells", fn := fun _ => fun
  | [d1, d2, d3] => { results := [.lit (.bool true)], args := [d1, d2, d3] }
  | _ => none }
def etagTellsRow : OpenClaim := { program := "ytbncdnkleodciab", sum := "663a79d43069fe3b977fefa19000d54dd572ded40e64fe062a4034442191c6f0", func := "newsreel/newsreellaw27.EtagTells", spec := "etagTells", apart := false }
def EtagTellsSaid : Prop := etagTellsRow.holds Try.pinned (OpenSpec.ofChange etagTellsSpec)

/-- ITS FALSE NEIGHBOUR: 'it returns false'. Refute it at one input. -/
def etagTellsWrong : ChangeSpec := { name := "etagTells", fn := fun _ => fun
  | [d1, d2, d3] => { results := [.lit (.bool false)], args := [d1, d2, d3] }
  | _ => none }
def EtagTellsWrongFalsely : Prop := etagTellsRow.holds Try.pinned (OpenSpec.ofChange etagTellsWrong)

/-- 'newsreellaw27.EtagBack': WHATEVER THE INPUT: true; the input reads as it did. -/
def etagBackSpec : ChangeSpec := { name := "etagBack", fn := fun _ => fun
  | [d1, d2, d3] => { results := [.lit (.bool true)], args := [d1, d2, d3] }
  | _ => none }
def etagBackRow : OpenClaim := { program := "ytbncdnkleodciab", sum := "663a79d43069fe3b977fefa19000d54dd572ded40e64fe062a4034442191c6f0", func := "newsreel/newsreellaw27.EtagBack", spec := "etagBack", apart := false }
def EtagBackSaid : Prop := etagBackRow.holds Try.pinned (OpenSpec.ofChange etagBackSpec)

/-- ITS FALSE NEIGHBOUR: 'it returns false'. Refute it at one input. -/
def etagBackWrong : ChangeSpec := { name := "etagBack", fn := fun _ => fun
  | [d1, d2, d3] => { results := [.lit (.bool false)], args := [d1, d2, d3] }
  | _ => none }
def EtagBackWrongFalsely : Prop := etagBackRow.holds Try.pinned (OpenSpec.ofChange etagBackWrong)

/-- 'newsreellaw51.TidyTells': WHATEVER THE INPUT: true; the input reads as it did. -/
def tidyTellsSpec : ChangeSpec := { name := "tidyTells", fn := fun _ => fun
  | [d1, d2] => { results := [.lit (.bool true)], args := [d1, d2] }
  | _ => none }
def tidyTellsRow : OpenClaim := { program := "ytbncdnkleodciab", sum := "663a79d43069fe3b977fefa19000d54dd572ded40e64fe062a4034442191c6f0", func := "newsreel/newsreellaw51.TidyTells", spec := "tidyTells", recurses := true, apart := false }
def TidyTellsSaid : Prop := tidyTellsRow.holds Try.pinned (OpenSpec.ofChange tidyTellsSpec)

/-- ITS FALSE NEIGHBOUR: 'it returns false'. Refute it at one input. -/
def tidyTellsWrong : ChangeSpec := { name := "tidyTells", fn := fun _ => fun
  | [d1, d2] => { results := [.lit (.bool false)], args := [d1, d2] }
  | _ => none }
def TidyTellsWrongFalsely : Prop := tidyTellsRow.holds Try.pinned (OpenSpec.ofChange tidyTellsWrong)

/- THE SECOND FORM. 'bulk': how many values and letters a reading holds, each counted each time it is reached (what is shared counts as often as it is met; a slice's spare places count too). A statement '..UptoSaid' is the law's where the arguments, and the package variables that the reading takes, are together of bulk at most 1048576: NARROWER than '..Said'. Prove '..Said' where nothing that the law and all that it calls make is longer than what came in: it says more and counts as full. Else prove '..UptoSaid'. A law counts once. -/
mutual
def uptoBulk {H : Type} : DataW H → Nat
  | .lit (.string bytes) => bytes.length + 1
  | .lit _ => 1
  | .nil => 1
  | .ptr d => uptoBulk d + 1
  | .slice elems spare => uptoBulkAll elems + uptoBulkAll spare + 1
  | .agg parts => uptoBulkAll parts + 1
  | .iface _ d => uptoBulk d + 1
  | .map entries => uptoBulkEntries entries + 1
  | .held _ => 1
def uptoBulkAll {H : Type} : List (DataW H) → Nat
  | [] => 0
  | d :: r => uptoBulk d + uptoBulkAll r
def uptoBulkEntries {H : Type} : List (Lit × DataW H) → Nat
  | [] => 0
  | x :: r => uptoBulkEntry x + uptoBulkEntries r
def uptoBulkEntry {H : Type} : Lit × DataW H → Nat
  | (.string bytes, d) => bytes.length + uptoBulk d + 1
  | (_, d) => uptoBulk d + 1
 end
def uptoSmall : (H : Type) → List (DataW H) → Bool := fun _ ds => decide (uptoBulkAll ds ≤ 1048576)
def OpenSpec.upto (s : _root_.Go.ChangeSpec) : _root_.Go.OpenSpec := { _root_.Go.OpenSpec.ofChange s with cond := some uptoSmall }

/-- 'newsreellaw40.QuotaKeeps', WHERE WHAT IT READS IS OF BULK AT MOST 1048576: true; the input reads as it did. -/
def quotaKeepsUptoRow : OpenClaim := { program := "ytbncdnkleodciab", sum := "663a79d43069fe3b977fefa19000d54dd572ded40e64fe062a4034442191c6f0", func := "newsreel/newsreellaw40.QuotaKeeps", spec := "quotaKeeps", unfollowed := true, recurses := true, apart := false, narrowed := true }
def QuotaKeepsUptoSaid : Prop := quotaKeepsUptoRow.holds Try.pinned (OpenSpec.upto quotaKeepsSpec)

/-- 'newsreellaw03.HexaTells', WHERE WHAT IT READS IS OF BULK AT MOST 1048576: true; the input reads as it did. -/
def hexaTellsUptoRow : OpenClaim := { program := "ytbncdnkleodciab", sum := "663a79d43069fe3b977fefa19000d54dd572ded40e64fe062a4034442191c6f0", func := "newsreel/newsreellaw03.HexaTells", spec := "hexaTells", inPlace := ["internal/bytealg.IndexByteString", "internal/abi.NoEscape"], apart := false, narrowed := true }
def HexaTellsUptoSaid : Prop := hexaTellsUptoRow.holds Try.pinned (OpenSpec.upto hexaTellsSpec)

/-- 'newsreellaw03.HexaBack', WHERE WHAT IT READS IS OF BULK AT MOST 1048576: true; the input reads as it did. -/
def hexaBackUptoRow : OpenClaim := { program := "ytbncdnkleodciab", sum := "663a79d43069fe3b977fefa19000d54dd572ded40e64fe062a4034442191c6f0", func := "newsreel/newsreellaw03.HexaBack", spec := "hexaBack", inPlace := ["internal/bytealg.IndexByteString", "internal/abi.NoEscape"], apart := false, narrowed := true }
def HexaBackUptoSaid : Prop := hexaBackUptoRow.holds Try.pinned (OpenSpec.upto hexaBackSpec)

/-- 'newsreellaw27.EtagTells', WHERE WHAT IT READS IS OF BULK AT MOST 1048576: true; the input reads as it did. -/
def etagTellsUptoRow : OpenClaim := { program := "ytbncdnkleodciab", sum := "663a79d43069fe3b977fefa19000d54dd572ded40e64fe062a4034442191c6f0", func := "newsreel/newsreellaw27.EtagTells", spec := "etagTells", apart := false, narrowed := true }
def EtagTellsUptoSaid : Prop := etagTellsUptoRow.holds Try.pinned (OpenSpec.upto etagTellsSpec)

/-- 'newsreellaw27.EtagBack', WHERE WHAT IT READS IS OF BULK AT MOST 1048576: true; the input reads as it did. -/
def etagBackUptoRow : OpenClaim := { program := "ytbncdnkleodciab", sum := "663a79d43069fe3b977fefa19000d54dd572ded40e64fe062a4034442191c6f0", func := "newsreel/newsreellaw27.EtagBack", spec := "etagBack", apart := false, narrowed := true }
def EtagBackUptoSaid : Prop := etagBackUptoRow.holds Try.pinned (OpenSpec.upto etagBackSpec)

/-- 'newsreellaw51.TidyTells', WHERE WHAT IT READS IS OF BULK AT MOST 1048576: true; the input reads as it did. -/
def tidyTellsUptoRow : OpenClaim := { program := "ytbncdnkleodciab", sum := "663a79d43069fe3b977fefa19000d54dd572ded40e64fe062a4034442191c6f0", func := "newsreel/newsreellaw51.TidyTells", spec := "tidyTells", recurses := true, apart := false, narrowed := true }
def TidyTellsUptoSaid : Prop := tidyTellsUptoRow.holds Try.pinned (OpenSpec.upto tidyTellsSpec)

end Rows
end Go.Proofs.Ytbncdnkleodciab
