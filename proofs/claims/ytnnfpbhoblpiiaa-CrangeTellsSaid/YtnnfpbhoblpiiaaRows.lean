/-
  No cell of these rows narrows 'for every input' (looked for: loops, veiled, ifaces, maps, wideKeys, modest, calm, conditions, laid).
  DERIVED. THE GIVEN ROWS OF THIS SEAT. 4 by the template 'for every input the law returns true; each argument reads behind the call as it read before'; 0 by the template 'total and deterministic' (their statements: YtnnfpbhoblpiiaaTotals.lean).
  GIVEN WITH THE SEED: the statements are not yours to turn. If you find one false, say at which input.
  Laid BY PROGRAM, IN A SANDBOX (cutbox-rows.mjs): the forced cells as the released guide's own fill.sh prints them over the translation da943d27bd121025… (all of the seat's roots in one cut). By AI agents, Wed Nov 11 2026. No macro, syntax, notation, axiom, sorry.
-/
import Derived.Test.YtnnfpbhoblpiiaaChecked
import GoSem.Claim
import GoSem.ClaimJoined
import GoSem.ClaimMapViews
import Derived.JoinedTies
import Derived.KernelRfl
namespace Go.Proofs.Ytnnfpbhoblpiiaa
/- THE CELL 'sum', in the pinned program and in every row, IS THE sha256 OF THE DUMP (.gsa) THAT YtnnfpbhoblpiiaaProg.lean LOADS. Nothing in Lean hashes anything: it is a label: what it is worth is what the hold of that sum in a sandbox is worth. -/
noncomputable def Try.pinned : Pinned := { name := "ytnnfpbhoblpiiaa", sum := "da943d27bd121025ee9b91cc74c07ae9c3dd3db43023550b5ec886559a6128bb", checked := Try.checked }
namespace Rows
def none {H : Type} : Left H := { results := [], args := [] }

/-- 'newsreellaw03.HexaTells': WHATEVER THE INPUT: true; the input reads as it did. -/
def hexaTellsSpec : ChangeSpec := { name := "hexaTells", fn := fun _ => fun
  | [d1, d2] => { results := [.lit (.bool true)], args := [d1, d2] }
  | _ => none }
def hexaTellsRow : OpenClaim := { program := "ytnnfpbhoblpiiaa", sum := "da943d27bd121025ee9b91cc74c07ae9c3dd3db43023550b5ec886559a6128bb", func := "newsreel/newsreellaw03.HexaTells", spec := "hexaTells", inPlace := ["internal/bytealg.IndexByteString", "internal/abi.NoEscape"], apart := false }
def HexaTellsSaid : Prop := hexaTellsRow.holds Try.pinned (OpenSpec.ofChange hexaTellsSpec)

/-- ITS FALSE NEIGHBOUR: 'it returns false'. Refute it at one input. -/
def hexaTellsWrong : ChangeSpec := { name := "hexaTells", fn := fun _ => fun
  | [d1, d2] => { results := [.lit (.bool false)], args := [d1, d2] }
  | _ => none }
def HexaTellsWrongFalsely : Prop := hexaTellsRow.holds Try.pinned (OpenSpec.ofChange hexaTellsWrong)

/-- 'newsreellaw03.HexaBack': WHATEVER THE INPUT: true; the input reads as it did. -/
def hexaBackSpec : ChangeSpec := { name := "hexaBack", fn := fun _ => fun
  | [d1, d2] => { results := [.lit (.bool true)], args := [d1, d2] }
  | _ => none }
def hexaBackRow : OpenClaim := { program := "ytnnfpbhoblpiiaa", sum := "da943d27bd121025ee9b91cc74c07ae9c3dd3db43023550b5ec886559a6128bb", func := "newsreel/newsreellaw03.HexaBack", spec := "hexaBack", inPlace := ["internal/bytealg.IndexByteString", "internal/abi.NoEscape"], apart := false }
def HexaBackSaid : Prop := hexaBackRow.holds Try.pinned (OpenSpec.ofChange hexaBackSpec)

/-- ITS FALSE NEIGHBOUR: 'it returns false'. Refute it at one input. -/
def hexaBackWrong : ChangeSpec := { name := "hexaBack", fn := fun _ => fun
  | [d1, d2] => { results := [.lit (.bool false)], args := [d1, d2] }
  | _ => none }
def HexaBackWrongFalsely : Prop := hexaBackRow.holds Try.pinned (OpenSpec.ofChange hexaBackWrong)

/-- 'newsreellaw28.CrangeTells': WHATEVER THE INPUT: true; the input reads as it did. -/
def crangeTellsSpec : ChangeSpec := { name := "crangeTells", fn := fun _ => fun
  | [d1, d2, d3] => { results := [.lit (.bool true)], args := [d1, d2, d3] }
  | _ => none }
def crangeTellsRow : OpenClaim := { program := "ytnnfpbhoblpiiaa", sum := "da943d27bd121025ee9b91cc74c07ae9c3dd3db43023550b5ec886559a6128bb", func := "newsreel/newsreellaw28.CrangeTells", spec := "crangeTells", inPlace := ["internal/bytealg.IndexByteString"], recurses := true, apart := false }
def CrangeTellsSaid : Prop := crangeTellsRow.holds Try.pinned (OpenSpec.ofChange crangeTellsSpec)

/-- ITS FALSE NEIGHBOUR: 'it returns false'. Refute it at one input. -/
def crangeTellsWrong : ChangeSpec := { name := "crangeTells", fn := fun _ => fun
  | [d1, d2, d3] => { results := [.lit (.bool false)], args := [d1, d2, d3] }
  | _ => none }
def CrangeTellsWrongFalsely : Prop := crangeTellsRow.holds Try.pinned (OpenSpec.ofChange crangeTellsWrong)

/-- 'newsreellaw28.CrangeBack': WHATEVER THE INPUT: true; the input reads as it did. -/
def crangeBackSpec : ChangeSpec := { name := "crangeBack", fn := fun _ => fun
  | [d1, d2, d3] => { results := [.lit (.bool true)], args := [d1, d2, d3] }
  | _ => none }
def crangeBackRow : OpenClaim := { program := "ytnnfpbhoblpiiaa", sum := "da943d27bd121025ee9b91cc74c07ae9c3dd3db43023550b5ec886559a6128bb", func := "newsreel/newsreellaw28.CrangeBack", spec := "crangeBack", inPlace := ["internal/bytealg.IndexByteString"], apart := false }
def CrangeBackSaid : Prop := crangeBackRow.holds Try.pinned (OpenSpec.ofChange crangeBackSpec)

/-- ITS FALSE NEIGHBOUR: 'it returns false'. Refute it at one input. -/
def crangeBackWrong : ChangeSpec := { name := "crangeBack", fn := fun _ => fun
  | [d1, d2, d3] => { results := [.lit (.bool false)], args := [d1, d2, d3] }
  | _ => none }
def CrangeBackWrongFalsely : Prop := crangeBackRow.holds Try.pinned (OpenSpec.ofChange crangeBackWrong)

/- THE SECOND FORM. 'bulk': how many values and letters a reading holds, each counted each time it is reached (what is shared counts as often as it is met; a slice's spare places count too). A statement '..UptoSaid' is the law's where the arguments, and the package variables that the reading takes, are together of bulk at most 1048576: NARROWER than '..Said'. Prove '..Said' where nothing that the law and all that it calls make is longer than what came in: it says more and counts as full. Else prove '..UptoSaid'. A law counts once. -/
mutual
def uptoBulk {H : Type} : DataW H → Nat
  | .lit (.string bytes) => bytes.length + 1
  | .lit _ => 1
  | .nil => 1
  | .ptr d => uptoBulk d + 1
  | .slice elems spare => uptoBulkAll elems + uptoBulkAll spare + 1
  | .agg parts => uptoBulkAll parts + 1
  | .iface _ d => uptoBulk d + 1
  | .map entries => uptoBulkEntries entries + 1
  | .held _ => 1
def uptoBulkAll {H : Type} : List (DataW H) → Nat
  | [] => 0
  | d :: r => uptoBulk d + uptoBulkAll r
def uptoBulkEntries {H : Type} : List (Lit × DataW H) → Nat
  | [] => 0
  | x :: r => uptoBulkEntry x + uptoBulkEntries r
def uptoBulkEntry {H : Type} : Lit × DataW H → Nat
  | (.string bytes, d) => bytes.length + uptoBulk d + 1
  | (_, d) => uptoBulk d + 1
 end
def uptoSmall : (H : Type) → List (DataW H) → Bool := fun _ ds => decide (uptoBulkAll ds ≤ 1048576)
def OpenSpec.upto (s : _root_.Go.ChangeSpec) : _root_.Go.OpenSpec := { _root_.Go.OpenSpec.ofChange s with cond := some uptoSmall }

/-- 'newsreellaw03.HexaTells', WHERE WHAT IT READS IS OF BULK AT MOST 1048576: true; the input reads as it did. -/
def hexaTellsUptoRow : OpenClaim := { program := "ytnnfpbhoblpiiaa", sum := "da943d27bd121025ee9b91cc74c07ae9c3dd3db43023550b5ec886559a6128bb", func := "newsreel/newsreellaw03.HexaTells", spec := "hexaTells", inPlace := ["internal/bytealg.IndexByteString", "internal/abi.NoEscape"], apart := false, narrowed := true }
def HexaTellsUptoSaid : Prop := hexaTellsUptoRow.holds Try.pinned (OpenSpec.upto hexaTellsSpec)

/-- 'newsreellaw03.HexaBack', WHERE WHAT IT READS IS OF BULK AT MOST 1048576: true; the input reads as it did. -/
def hexaBackUptoRow : OpenClaim := { program := "ytnnfpbhoblpiiaa", sum := "da943d27bd121025ee9b91cc74c07ae9c3dd3db43023550b5ec886559a6128bb", func := "newsreel/newsreellaw03.HexaBack", spec := "hexaBack", inPlace := ["internal/bytealg.IndexByteString", "internal/abi.NoEscape"], apart := false, narrowed := true }
def HexaBackUptoSaid : Prop := hexaBackUptoRow.holds Try.pinned (OpenSpec.upto hexaBackSpec)

/-- 'newsreellaw28.CrangeTells', WHERE WHAT IT READS IS OF BULK AT MOST 1048576: true; the input reads as it did. -/
def crangeTellsUptoRow : OpenClaim := { program := "ytnnfpbhoblpiiaa", sum := "da943d27bd121025ee9b91cc74c07ae9c3dd3db43023550b5ec886559a6128bb", func := "newsreel/newsreellaw28.CrangeTells", spec := "crangeTells", inPlace := ["internal/bytealg.IndexByteString"], recurses := true, apart := false, narrowed := true }
def CrangeTellsUptoSaid : Prop := crangeTellsUptoRow.holds Try.pinned (OpenSpec.upto crangeTellsSpec)

/-- 'newsreellaw28.CrangeBack', WHERE WHAT IT READS IS OF BULK AT MOST 1048576: true; the input reads as it did. -/
def crangeBackUptoRow : OpenClaim := { program := "ytnnfpbhoblpiiaa", sum := "da943d27bd121025ee9b91cc74c07ae9c3dd3db43023550b5ec886559a6128bb", func := "newsreel/newsreellaw28.CrangeBack", spec := "crangeBack", inPlace := ["internal/bytealg.IndexByteString"], apart := false, narrowed := true }
def CrangeBackUptoSaid : Prop := crangeBackUptoRow.holds Try.pinned (OpenSpec.upto crangeBackSpec)

end Rows
end Go.Proofs.Ytnnfpbhoblpiiaa
