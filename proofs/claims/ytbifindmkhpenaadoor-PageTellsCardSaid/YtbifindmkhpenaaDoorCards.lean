/-
  DERIVED. GIVEN WITH THE SEED: THE CARDS: each row of YtbifindmkhpenaaDoorRows.lean that lists a variable, with what it lists TIED to the program's text (the seventh form; the later family's looks); each row that meets fmt, with fmt's text TOLD by the authors' own Lean function (tested against real Go, not proved from fmt's source: count such statements apart). THE CARD IS WHAT COUNTS. Prove the row's statement (the work); the ties are given (YtbifindmkhpenaaDoorTie.lean); close each card by the builder's one call (the guide's Derived/Test/ToyasCard.lean, 'card_holds'). Laid BY PROGRAM, IN A SANDBOX (cutbox-door.mjs). By AI agents, Wed Nov 11 2026. No macro, syntax, notation, axiom, sorry.
-/
import Derived.Test.YtbifindmkhpenaaDoorRows
import GoSem.ClaimSeven
namespace Go.Proofs.YtbifindmkhpenaaDoor
namespace Rows

/-- THE TIED CARD OF 'newsreellaw34.PageTells'. -/
def pageTellsCard : Claim7 := { stood := { row := pageTellsRow, standIns := [], harness := (true, "2a2ef122d030aff12b7f476425b67fcb9cc963440a9970b36729926e57bd53d7"), looks := false }, kinds := [], alts := [], laidByText := true, laidKinds := [.data, .pinned], laidTests := true, laidLooks := .later }
def PageTellsCardSaid : Prop := Claim7.holds Tryd.pinned (.plain (OpenSpec.ofChange pageTellsSpec)) pageTellsCard

/-- THE TIED CARD OF 'newsreellaw34.PageTags'. -/
def pageTagsCard : Claim7 := { stood := { row := pageTagsRow, standIns := [], harness := (true, "2a2ef122d030aff12b7f476425b67fcb9cc963440a9970b36729926e57bd53d7"), looks := false }, kinds := [], alts := [], laidByText := true, laidKinds := [.data, .pinned], laidTests := true, laidLooks := .later }
def PageTagsCardSaid : Prop := Claim7.holds Tryd.pinned (.plain (OpenSpec.ofChange pageTagsSpec)) pageTagsCard

/-- THE SECOND FORM's CARD OF 'newsreellaw34.PageTells'. -/
def pageTellsUptoCard : Claim7 := { stood := { row := pageTellsUptoRow, standIns := [], harness := (true, "2a2ef122d030aff12b7f476425b67fcb9cc963440a9970b36729926e57bd53d7"), looks := false }, kinds := [], alts := [], laidByText := true, laidKinds := [.data, .pinned], laidTests := true, laidLooks := .later }
def PageTellsUptoCardSaid : Prop := Claim7.holds Tryd.pinned (.plain (OpenSpec.upto pageTellsSpec)) pageTellsUptoCard

/-- THE SECOND FORM's CARD OF 'newsreellaw34.PageTags'. -/
def pageTagsUptoCard : Claim7 := { stood := { row := pageTagsUptoRow, standIns := [], harness := (true, "2a2ef122d030aff12b7f476425b67fcb9cc963440a9970b36729926e57bd53d7"), looks := false }, kinds := [], alts := [], laidByText := true, laidKinds := [.data, .pinned], laidTests := true, laidLooks := .later }
def PageTagsUptoCardSaid : Prop := Claim7.holds Tryd.pinned (.plain (OpenSpec.upto pageTagsSpec)) pageTagsUptoCard
end Rows
end Go.Proofs.YtbifindmkhpenaaDoor
