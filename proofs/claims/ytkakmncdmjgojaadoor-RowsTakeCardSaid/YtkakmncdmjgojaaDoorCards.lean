/-
  DERIVED. GIVEN WITH THE SEED: THE CARDS: each row of YtkakmncdmjgojaaDoorRows.lean that lists a variable, with what it lists TIED to the program's text (the seventh form; the later family's looks); each row that meets fmt, with fmt's text TOLD by the authors' own Lean function (tested against real Go, not proved from fmt's source: count such statements apart). THE CARD IS WHAT COUNTS. Prove the row's statement (the work); the ties are given (YtkakmncdmjgojaaDoorTie.lean); close each card by the builder's one call (the guide's Derived/Test/ToyasCard.lean, 'card_holds'). Laid BY PROGRAM, IN A SANDBOX (cutbox-door.mjs). By AI agents, Wed Nov 11 2026. No macro, syntax, notation, axiom, sorry.
-/
import Derived.Test.YtkakmncdmjgojaaDoorRows
import GoSem.ClaimSeven
namespace Go.Proofs.YtkakmncdmjgojaaDoor
namespace Rows

/-- THE TIED CARD OF 'newsreellaw14.RowsPut'. -/
def rowsPutCard : Claim7 := { stood := { row := rowsPutRow, standIns := [], harness := (true, "ae7dd3858f83f3107207d0fd49946e42b104877c7c13a7f6930eded6d7ee2323"), looks := false }, kinds := [], alts := [], laidByText := true, laidKinds := [.data, .pinned], laidTests := true, laidLooks := .later }
def RowsPutCardSaid : Prop := Claim7.holds Tryd.pinned (.plain (OpenSpec.ofChange rowsPutSpec)) rowsPutCard

/-- THE TIED CARD OF 'newsreellaw14.RowsTake'. -/
def rowsTakeCard : Claim7 := { stood := { row := rowsTakeRow, standIns := [], harness := (true, "ae7dd3858f83f3107207d0fd49946e42b104877c7c13a7f6930eded6d7ee2323"), looks := false }, kinds := [], alts := [], laidByText := true, laidKinds := [.data, .pinned], laidTests := true, laidLooks := .later }
def RowsTakeCardSaid : Prop := Claim7.holds Tryd.pinned (.plain (OpenSpec.ofChange rowsTakeSpec)) rowsTakeCard

/-- THE TIED CARD OF 'newsreellaw14.RowsBack'. -/
def rowsBackCard : Claim7 := { stood := { row := rowsBackRow, standIns := [], harness := (true, "ae7dd3858f83f3107207d0fd49946e42b104877c7c13a7f6930eded6d7ee2323"), looks := false }, kinds := [], alts := [], laidByText := true, laidKinds := [.data, .pinned], laidTests := true, laidLooks := .later }
def RowsBackCardSaid : Prop := Claim7.holds Tryd.pinned (.plain (OpenSpec.ofChange rowsBackSpec)) rowsBackCard

/-- THE SECOND FORM's CARD OF 'newsreellaw14.RowsPut'. -/
def rowsPutUptoCard : Claim7 := { stood := { row := rowsPutUptoRow, standIns := [], harness := (true, "ae7dd3858f83f3107207d0fd49946e42b104877c7c13a7f6930eded6d7ee2323"), looks := false }, kinds := [], alts := [], laidByText := true, laidKinds := [.data, .pinned], laidTests := true, laidLooks := .later }
def RowsPutUptoCardSaid : Prop := Claim7.holds Tryd.pinned (.plain (OpenSpec.upto rowsPutSpec)) rowsPutUptoCard

/-- THE SECOND FORM's CARD OF 'newsreellaw14.RowsTake'. -/
def rowsTakeUptoCard : Claim7 := { stood := { row := rowsTakeUptoRow, standIns := [], harness := (true, "ae7dd3858f83f3107207d0fd49946e42b104877c7c13a7f6930eded6d7ee2323"), looks := false }, kinds := [], alts := [], laidByText := true, laidKinds := [.data, .pinned], laidTests := true, laidLooks := .later }
def RowsTakeUptoCardSaid : Prop := Claim7.holds Tryd.pinned (.plain (OpenSpec.upto rowsTakeSpec)) rowsTakeUptoCard

/-- THE SECOND FORM's CARD OF 'newsreellaw14.RowsBack'. -/
def rowsBackUptoCard : Claim7 := { stood := { row := rowsBackUptoRow, standIns := [], harness := (true, "ae7dd3858f83f3107207d0fd49946e42b104877c7c13a7f6930eded6d7ee2323"), looks := false }, kinds := [], alts := [], laidByText := true, laidKinds := [.data, .pinned], laidTests := true, laidLooks := .later }
def RowsBackUptoCardSaid : Prop := Claim7.holds Tryd.pinned (.plain (OpenSpec.upto rowsBackSpec)) rowsBackUptoCard
end Rows
end Go.Proofs.YtkakmncdmjgojaaDoor
