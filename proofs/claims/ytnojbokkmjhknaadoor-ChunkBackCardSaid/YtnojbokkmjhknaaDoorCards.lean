/-
  DERIVED. GIVEN WITH THE SEED: THE CARDS: each row of YtnojbokkmjhknaaDoorRows.lean that lists a variable, with what it lists TIED to the program's text (the seventh form; the later family's looks); each row that meets fmt, with fmt's text TOLD by the authors' own Lean function (tested against real Go, not proved from fmt's source: count such statements apart). THE CARD IS WHAT COUNTS. Prove the row's statement (the work); the ties are given (YtnojbokkmjhknaaDoorTie.lean); close each card by the builder's one call (the guide's Derived/Test/ToyasCard.lean, 'card_holds'). Laid BY PROGRAM, IN A SANDBOX (cutbox-door.mjs). By AI agents, Wed Nov 11 2026. No macro, syntax, notation, axiom, sorry.
-/
import Derived.Test.YtnojbokkmjhknaaDoorRows
import GoSem.ClaimSeven
namespace Go.Proofs.YtnojbokkmjhknaaDoor
namespace Rows

/-- THE TIED CARD OF 'newsreellaw30.ChunkTells'. -/
def chunkTellsCard : Claim7 := { stood := { row := chunkTellsRow, standIns := [], harness := (true, "b19b11bf4023ff207ecfbd10a39ef0d1289c538adc166f3403cb16c5374c7305"), looks := false }, kinds := [], alts := [], laidByText := true, laidKinds := [.data, .pinned], laidTests := true, laidLooks := .later }
def ChunkTellsCardSaid : Prop := Claim7.holds Tryd.pinned (.plain (OpenSpec.ofChange chunkTellsSpec)) chunkTellsCard

/-- THE TIED CARD OF 'newsreellaw30.ChunkLong'. -/
def chunkLongCard : Claim7 := { stood := { row := chunkLongRow, standIns := [], harness := (true, "b19b11bf4023ff207ecfbd10a39ef0d1289c538adc166f3403cb16c5374c7305"), looks := false }, kinds := [], alts := [], laidByText := true, laidKinds := [.data, .pinned], laidTests := true, laidLooks := .later }
def ChunkLongCardSaid : Prop := Claim7.holds Tryd.pinned (.plain (OpenSpec.ofChange chunkLongSpec)) chunkLongCard

/-- THE TIED CARD OF 'newsreellaw30.ChunkBack'. -/
def chunkBackCard : Claim7 := { stood := { row := chunkBackRow, standIns := [], harness := (true, "b19b11bf4023ff207ecfbd10a39ef0d1289c538adc166f3403cb16c5374c7305"), looks := false }, kinds := [], alts := [], laidByText := true, laidKinds := [.data, .pinned], laidTests := true, laidLooks := .later }
def ChunkBackCardSaid : Prop := Claim7.holds Tryd.pinned (.plain (OpenSpec.ofChange chunkBackSpec)) chunkBackCard

/-- THE SECOND FORM's CARD OF 'newsreellaw30.ChunkTells'. -/
def chunkTellsUptoCard : Claim7 := { stood := { row := chunkTellsUptoRow, standIns := [], harness := (true, "b19b11bf4023ff207ecfbd10a39ef0d1289c538adc166f3403cb16c5374c7305"), looks := false }, kinds := [], alts := [], laidByText := true, laidKinds := [.data, .pinned], laidTests := true, laidLooks := .later }
def ChunkTellsUptoCardSaid : Prop := Claim7.holds Tryd.pinned (.plain (OpenSpec.upto chunkTellsSpec)) chunkTellsUptoCard

/-- THE SECOND FORM's CARD OF 'newsreellaw30.ChunkLong'. -/
def chunkLongUptoCard : Claim7 := { stood := { row := chunkLongUptoRow, standIns := [], harness := (true, "b19b11bf4023ff207ecfbd10a39ef0d1289c538adc166f3403cb16c5374c7305"), looks := false }, kinds := [], alts := [], laidByText := true, laidKinds := [.data, .pinned], laidTests := true, laidLooks := .later }
def ChunkLongUptoCardSaid : Prop := Claim7.holds Tryd.pinned (.plain (OpenSpec.upto chunkLongSpec)) chunkLongUptoCard

/-- THE SECOND FORM's CARD OF 'newsreellaw30.ChunkBack'. -/
def chunkBackUptoCard : Claim7 := { stood := { row := chunkBackUptoRow, standIns := [], harness := (true, "b19b11bf4023ff207ecfbd10a39ef0d1289c538adc166f3403cb16c5374c7305"), looks := false }, kinds := [], alts := [], laidByText := true, laidKinds := [.data, .pinned], laidTests := true, laidLooks := .later }
def ChunkBackUptoCardSaid : Prop := Claim7.holds Tryd.pinned (.plain (OpenSpec.upto chunkBackSpec)) chunkBackUptoCard
end Rows
end Go.Proofs.YtnojbokkmjhknaaDoor
