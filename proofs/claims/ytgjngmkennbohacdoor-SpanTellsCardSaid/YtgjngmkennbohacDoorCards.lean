/-
  DERIVED. GIVEN WITH THE SEED: THE CARDS: each row of YtgjngmkennbohacDoorRows.lean that lists a variable, with what it lists TIED to the program's text (the seventh form; the later family's looks); each row that meets fmt, with fmt's text TOLD by the authors' own Lean function (tested against real Go, not proved from fmt's source: count such statements apart). THE CARD IS WHAT COUNTS. Prove the row's statement (the work); the ties are given (YtgjngmkennbohacDoorTie.lean); close each card by the builder's one call (the guide's Derived/Test/ToyasCard.lean, 'card_holds'). Laid BY PROGRAM, IN A SANDBOX (cutbox-door.mjs). By AI agents, Wed Nov 11 2026. No macro, syntax, notation, axiom, sorry.
-/
import Derived.Test.YtgjngmkennbohacDoorRows
import GoSem.ClaimSeven
namespace Go.Proofs.YtgjngmkennbohacDoor
namespace Rows

/-- THE TIED CARD OF 'newsreellaw18.SpanTells'. -/
def spanTellsCard : Claim7 := { stood := { row := spanTellsRow, standIns := [], harness := (true, "5cdc7a7079c1755daaef6bdb72fc33a027f41aa11100892198e4b0d6105f2055"), looks := false }, kinds := [], alts := [], laidByText := true, laidKinds := [.data, .pinned], laidTests := true, laidLooks := .later }
def SpanTellsCardSaid : Prop := Claim7.holds Tryd.pinned (.plain (OpenSpec.ofChange spanTellsSpec)) spanTellsCard

/-- THE TIED CARD OF 'newsreellaw18.SpanBack'. -/
def spanBackCard : Claim7 := { stood := { row := spanBackRow, standIns := [], harness := (true, "5cdc7a7079c1755daaef6bdb72fc33a027f41aa11100892198e4b0d6105f2055"), looks := false }, kinds := [], alts := [], laidByText := true, laidKinds := [.data, .pinned], laidTests := true, laidLooks := .later }
def SpanBackCardSaid : Prop := Claim7.holds Tryd.pinned (.plain (OpenSpec.ofChange spanBackSpec)) spanBackCard

/-- THE TIED CARD OF 'newsreellaw14.RowsPut'. -/
def rowsPutCard : Claim7 := { stood := { row := rowsPutRow, standIns := [], harness := (true, "5cdc7a7079c1755daaef6bdb72fc33a027f41aa11100892198e4b0d6105f2055"), looks := false }, kinds := [], alts := [], laidByText := true, laidKinds := [.data, .pinned], laidTests := true, laidLooks := .later }
def RowsPutCardSaid : Prop := Claim7.holds Tryd.pinned (.plain (OpenSpec.ofChange rowsPutSpec)) rowsPutCard

/-- THE TIED CARD OF 'newsreellaw14.RowsTake'. -/
def rowsTakeCard : Claim7 := { stood := { row := rowsTakeRow, standIns := [], harness := (true, "5cdc7a7079c1755daaef6bdb72fc33a027f41aa11100892198e4b0d6105f2055"), looks := false }, kinds := [], alts := [], laidByText := true, laidKinds := [.data, .pinned], laidTests := true, laidLooks := .later }
def RowsTakeCardSaid : Prop := Claim7.holds Tryd.pinned (.plain (OpenSpec.ofChange rowsTakeSpec)) rowsTakeCard

/-- THE TIED CARD OF 'newsreellaw14.RowsBack'. -/
def rowsBackCard : Claim7 := { stood := { row := rowsBackRow, standIns := [], harness := (true, "5cdc7a7079c1755daaef6bdb72fc33a027f41aa11100892198e4b0d6105f2055"), looks := false }, kinds := [], alts := [], laidByText := true, laidKinds := [.data, .pinned], laidTests := true, laidLooks := .later }
def RowsBackCardSaid : Prop := Claim7.holds Tryd.pinned (.plain (OpenSpec.ofChange rowsBackSpec)) rowsBackCard

/-- THE SECOND FORM's CARD OF 'newsreellaw18.SpanTells'. -/
def spanTellsUptoCard : Claim7 := { stood := { row := spanTellsUptoRow, standIns := [], harness := (true, "5cdc7a7079c1755daaef6bdb72fc33a027f41aa11100892198e4b0d6105f2055"), looks := false }, kinds := [], alts := [], laidByText := true, laidKinds := [.data, .pinned], laidTests := true, laidLooks := .later }
def SpanTellsUptoCardSaid : Prop := Claim7.holds Tryd.pinned (.plain (OpenSpec.upto spanTellsSpec)) spanTellsUptoCard

/-- THE SECOND FORM's CARD OF 'newsreellaw18.SpanBack'. -/
def spanBackUptoCard : Claim7 := { stood := { row := spanBackUptoRow, standIns := [], harness := (true, "5cdc7a7079c1755daaef6bdb72fc33a027f41aa11100892198e4b0d6105f2055"), looks := false }, kinds := [], alts := [], laidByText := true, laidKinds := [.data, .pinned], laidTests := true, laidLooks := .later }
def SpanBackUptoCardSaid : Prop := Claim7.holds Tryd.pinned (.plain (OpenSpec.upto spanBackSpec)) spanBackUptoCard

/-- THE SECOND FORM's CARD OF 'newsreellaw14.RowsPut'. -/
def rowsPutUptoCard : Claim7 := { stood := { row := rowsPutUptoRow, standIns := [], harness := (true, "5cdc7a7079c1755daaef6bdb72fc33a027f41aa11100892198e4b0d6105f2055"), looks := false }, kinds := [], alts := [], laidByText := true, laidKinds := [.data, .pinned], laidTests := true, laidLooks := .later }
def RowsPutUptoCardSaid : Prop := Claim7.holds Tryd.pinned (.plain (OpenSpec.upto rowsPutSpec)) rowsPutUptoCard

/-- THE SECOND FORM's CARD OF 'newsreellaw14.RowsTake'. -/
def rowsTakeUptoCard : Claim7 := { stood := { row := rowsTakeUptoRow, standIns := [], harness := (true, "5cdc7a7079c1755daaef6bdb72fc33a027f41aa11100892198e4b0d6105f2055"), looks := false }, kinds := [], alts := [], laidByText := true, laidKinds := [.data, .pinned], laidTests := true, laidLooks := .later }
def RowsTakeUptoCardSaid : Prop := Claim7.holds Tryd.pinned (.plain (OpenSpec.upto rowsTakeSpec)) rowsTakeUptoCard

/-- THE SECOND FORM's CARD OF 'newsreellaw14.RowsBack'. -/
def rowsBackUptoCard : Claim7 := { stood := { row := rowsBackUptoRow, standIns := [], harness := (true, "5cdc7a7079c1755daaef6bdb72fc33a027f41aa11100892198e4b0d6105f2055"), looks := false }, kinds := [], alts := [], laidByText := true, laidKinds := [.data, .pinned], laidTests := true, laidLooks := .later }
def RowsBackUptoCardSaid : Prop := Claim7.holds Tryd.pinned (.plain (OpenSpec.upto rowsBackSpec)) rowsBackUptoCard
end Rows
end Go.Proofs.YtgjngmkennbohacDoor
