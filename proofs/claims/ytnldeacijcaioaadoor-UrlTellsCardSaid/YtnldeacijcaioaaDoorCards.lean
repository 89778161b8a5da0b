/-
  DERIVED. GIVEN WITH THE SEED: THE CARDS: each row of YtnldeacijcaioaaDoorRows.lean that lists a variable, with what it lists TIED to the program's text (the seventh form; the later family's looks); each row that meets fmt, with fmt's text TOLD by the authors' own Lean function (tested against real Go, not proved from fmt's source: count such statements apart). THE CARD IS WHAT COUNTS. Prove the row's statement (the work); the ties are given (YtnldeacijcaioaaDoorTie.lean); close each card by the builder's one call (the guide's Derived/Test/ToyasCard.lean, 'card_holds'). Laid BY PROGRAM, IN A SANDBOX (cutbox-door.mjs). By AI agents, Wed Nov 11 2026. No macro, syntax, notation, axiom, sorry.
-/
import Derived.Test.YtnldeacijcaioaaDoorRows
import GoSem.ClaimSeven
namespace Go.Proofs.YtnldeacijcaioaaDoor
namespace Rows

/-- THE TIED CARD OF 'newsreellaw23.UrlTells'. -/
def urlTellsCard : Claim7 := { stood := { row := urlTellsRow, standIns := [], harness := (true, "52ec3bc87b87410a77a9a0a80de848cc2d5d7ac479660fe1599cd5af262aaea6"), looks := false }, kinds := [], alts := [], laidByText := true, laidKinds := [.data, .pinned], laidTests := true, laidLooks := .later }
def UrlTellsCardSaid : Prop := Claim7.holds Tryd.pinned (.plain (OpenSpec.ofChange urlTellsSpec)) urlTellsCard

/-- THE TIED CARD OF 'newsreellaw23.UrlBack'. -/
def urlBackCard : Claim7 := { stood := { row := urlBackRow, standIns := [], harness := (true, "52ec3bc87b87410a77a9a0a80de848cc2d5d7ac479660fe1599cd5af262aaea6"), looks := false }, kinds := [], alts := [], laidByText := true, laidKinds := [.data, .pinned], laidTests := true, laidLooks := .later }
def UrlBackCardSaid : Prop := Claim7.holds Tryd.pinned (.plain (OpenSpec.ofChange urlBackSpec)) urlBackCard

/-- THE SECOND FORM's CARD OF 'newsreellaw23.UrlTells'. -/
def urlTellsUptoCard : Claim7 := { stood := { row := urlTellsUptoRow, standIns := [], harness := (true, "52ec3bc87b87410a77a9a0a80de848cc2d5d7ac479660fe1599cd5af262aaea6"), looks := false }, kinds := [], alts := [], laidByText := true, laidKinds := [.data, .pinned], laidTests := true, laidLooks := .later }
def UrlTellsUptoCardSaid : Prop := Claim7.holds Tryd.pinned (.plain (OpenSpec.upto urlTellsSpec)) urlTellsUptoCard

/-- THE SECOND FORM's CARD OF 'newsreellaw23.UrlBack'. -/
def urlBackUptoCard : Claim7 := { stood := { row := urlBackUptoRow, standIns := [], harness := (true, "52ec3bc87b87410a77a9a0a80de848cc2d5d7ac479660fe1599cd5af262aaea6"), looks := false }, kinds := [], alts := [], laidByText := true, laidKinds := [.data, .pinned], laidTests := true, laidLooks := .later }
def UrlBackUptoCardSaid : Prop := Claim7.holds Tryd.pinned (.plain (OpenSpec.upto urlBackSpec)) urlBackUptoCard
end Rows
end Go.Proofs.YtnldeacijcaioaaDoor
