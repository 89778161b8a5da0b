/-
  DERIVED. GIVEN WITH THE SEED: THE CARDS: each row of YtpmcogaklhlakaaDoorRows.lean that lists a variable, with what it lists TIED to the program's text (the seventh form; the later family's looks); each row that meets fmt, with fmt's text TOLD by the authors' own Lean function (tested against real Go, not proved from fmt's source: count such statements apart). THE CARD IS WHAT COUNTS. Prove the row's statement (the work); the ties are given (YtpmcogaklhlakaaDoorTie.lean); close each card by the builder's one call (the guide's Derived/Test/ToyasCard.lean, 'card_holds'). Laid BY PROGRAM, IN A SANDBOX (cutbox-door.mjs). By AI agents, Wed Nov 11 2026. No macro, syntax, notation, axiom, sorry.
-/
import Derived.Test.YtpmcogaklhlakaaDoorRows
import GoSem.ClaimSeven
namespace Go.Proofs.YtpmcogaklhlakaaDoor
namespace Rows

/-- THE TIED CARD OF 'newsreellaw24.ResolveBack'. -/
def resolveBackCard : Claim7 := { stood := { row := resolveBackRow, standIns := [], harness := (true, "6f34730ffbfbe67364006372a2f9e33bd17ebd1910516ef360242c5f52d9ed07"), looks := false }, kinds := [], alts := [], laidByText := true, laidKinds := [.data, .pinned], laidTests := true, laidLooks := .later }
def ResolveBackCardSaid : Prop := Claim7.holds Tryd.pinned (.plain (OpenSpec.ofChange resolveBackSpec)) resolveBackCard

/-- THE TIED CARD OF 'newsreellaw33.HopStays'. -/
def hopStaysCard : Claim7 := { stood := { row := hopStaysRow, standIns := [], harness := (true, "6f34730ffbfbe67364006372a2f9e33bd17ebd1910516ef360242c5f52d9ed07"), looks := false }, kinds := [], alts := [], laidByText := true, laidKinds := [.data, .pinned], laidTests := true, laidLooks := .later }
def HopStaysCardSaid : Prop := Claim7.holds Tryd.pinned (.plain (OpenSpec.ofChange hopStaysSpec)) hopStaysCard

/-- THE SECOND FORM's CARD OF 'newsreellaw24.ResolveBack'. -/
def resolveBackUptoCard : Claim7 := { stood := { row := resolveBackUptoRow, standIns := [], harness := (true, "6f34730ffbfbe67364006372a2f9e33bd17ebd1910516ef360242c5f52d9ed07"), looks := false }, kinds := [], alts := [], laidByText := true, laidKinds := [.data, .pinned], laidTests := true, laidLooks := .later }
def ResolveBackUptoCardSaid : Prop := Claim7.holds Tryd.pinned (.plain (OpenSpec.upto resolveBackSpec)) resolveBackUptoCard

/-- THE SECOND FORM's CARD OF 'newsreellaw33.HopStays'. -/
def hopStaysUptoCard : Claim7 := { stood := { row := hopStaysUptoRow, standIns := [], harness := (true, "6f34730ffbfbe67364006372a2f9e33bd17ebd1910516ef360242c5f52d9ed07"), looks := false }, kinds := [], alts := [], laidByText := true, laidKinds := [.data, .pinned], laidTests := true, laidLooks := .later }
def HopStaysUptoCardSaid : Prop := Claim7.holds Tryd.pinned (.plain (OpenSpec.upto hopStaysSpec)) hopStaysUptoCard
end Rows
end Go.Proofs.YtpmcogaklhlakaaDoor
