/-
  DERIVED. GIVEN WITH THE SEED: THE CARDS: each row of YthemlbefkdmegaaDoorRows.lean that lists a variable, with what it lists TIED to the program's text (the seventh form; the later family's looks); each row that meets fmt, with fmt's text TOLD by the authors' own Lean function (tested against real Go, not proved from fmt's source: count such statements apart). THE CARD IS WHAT COUNTS. Prove the row's statement (the work); the ties are given (YthemlbefkdmegaaDoorTie.lean); close each card by the builder's one call (the guide's Derived/Test/ToyasCard.lean, 'card_holds'). Laid BY PROGRAM, IN A SANDBOX (cutbox-door.mjs). By AI agents, Wed Nov 11 2026. No macro, syntax, notation, axiom, sorry.
-/
import Derived.Test.YthemlbefkdmegaaDoorRows
import GoSem.ClaimSeven
namespace Go.Proofs.YthemlbefkdmegaaDoor
namespace Rows

/-- THE TIED CARD OF 'lockagelaw08.ChunkAny'. -/
def chunkAnyCard : Claim7 := { stood := { row := chunkAnyRow, standIns := [], harness := (true, "5fbbf4134576af8d9b4a75972b4b7508ce34426856f7343a57c349a4371bd338"), looks := false }, kinds := [], alts := [], laidByText := true, laidKinds := [.data, .data, .data, .data, .pinned], laidTests := true, laidLooks := .later }
def ChunkAnyCardSaid : Prop := Claim7.holds Tryd.pinned (.plain (OpenSpec.ofChange chunkAnySpec)) chunkAnyCard

/-- THE TIED CARD OF 'lockagelaw08.ChunkSmall'. -/
def chunkSmallCard : Claim7 := { stood := { row := chunkSmallRow, standIns := [], harness := (true, "5fbbf4134576af8d9b4a75972b4b7508ce34426856f7343a57c349a4371bd338"), looks := false }, kinds := [], alts := [], laidByText := true, laidKinds := [.data, .data, .data, .data, .pinned], laidTests := true, laidLooks := .later }
def ChunkSmallCardSaid : Prop := Claim7.holds Tryd.pinned (.plain (OpenSpec.ofChange chunkSmallSpec)) chunkSmallCard

/-- THE TIED CARD OF 'lockagelaw08.ChunkEncode'. -/
def chunkEncodeCard : Claim7 := { stood := { row := chunkEncodeRow, standIns := [], harness := (true, "5fbbf4134576af8d9b4a75972b4b7508ce34426856f7343a57c349a4371bd338"), looks := false }, kinds := [], alts := [], laidByText := true, laidKinds := [.data, .data, .data, .data, .pinned], laidTests := true, laidLooks := .later }
def ChunkEncodeCardSaid : Prop := Claim7.holds Tryd.pinned (.plain (OpenSpec.ofChange chunkEncodeSpec)) chunkEncodeCard

/-- THE TIED CARD OF 'lockagelaw08.ChunkLong'. -/
def chunkLongCard : Claim7 := { stood := { row := chunkLongRow, standIns := [], harness := (true, "5fbbf4134576af8d9b4a75972b4b7508ce34426856f7343a57c349a4371bd338"), looks := false }, kinds := [], alts := [], laidByText := true, laidKinds := [.data, .data, .data, .data, .pinned], laidTests := true, laidLooks := .later }
def ChunkLongCardSaid : Prop := Claim7.holds Tryd.pinned (.plain (OpenSpec.ofChange chunkLongSpec)) chunkLongCard

/-- THE TIED CARD OF 'lockagelaw08.ChunkSplit'. -/
def chunkSplitCard : Claim7 := { stood := { row := chunkSplitRow, standIns := [], harness := (true, "5fbbf4134576af8d9b4a75972b4b7508ce34426856f7343a57c349a4371bd338"), looks := false }, kinds := [], alts := [], laidByText := true, laidKinds := [.data, .data, .data, .data, .pinned], laidTests := true, laidLooks := .later }
def ChunkSplitCardSaid : Prop := Claim7.holds Tryd.pinned (.plain (OpenSpec.ofChange chunkSplitSpec)) chunkSplitCard

/-- THE TIED CARD OF 'lockagelaw08.ChunkBack'. -/
def chunkBackCard : Claim7 := { stood := { row := chunkBackRow, standIns := [], harness := (true, "5fbbf4134576af8d9b4a75972b4b7508ce34426856f7343a57c349a4371bd338"), looks := false }, kinds := [], alts := [], laidByText := true, laidKinds := [.data, .data, .data, .data, .pinned], laidTests := true, laidLooks := .later }
def ChunkBackCardSaid : Prop := Claim7.holds Tryd.pinned (.plain (OpenSpec.ofChange chunkBackSpec)) chunkBackCard

/-- THE SECOND FORM's CARD OF 'lockagelaw08.ChunkAny'. -/
def chunkAnyUptoCard : Claim7 := { stood := { row := chunkAnyUptoRow, standIns := [], harness := (true, "5fbbf4134576af8d9b4a75972b4b7508ce34426856f7343a57c349a4371bd338"), looks := false }, kinds := [], alts := [], laidByText := true, laidKinds := [.data, .data, .data, .data, .pinned], laidTests := true, laidLooks := .later }
def ChunkAnyUptoCardSaid : Prop := Claim7.holds Tryd.pinned (.plain (OpenSpec.upto chunkAnySpec)) chunkAnyUptoCard

/-- THE SECOND FORM's CARD OF 'lockagelaw08.ChunkSmall'. -/
def chunkSmallUptoCard : Claim7 := { stood := { row := chunkSmallUptoRow, standIns := [], harness := (true, "5fbbf4134576af8d9b4a75972b4b7508ce34426856f7343a57c349a4371bd338"), looks := false }, kinds := [], alts := [], laidByText := true, laidKinds := [.data, .data, .data, .data, .pinned], laidTests := true, laidLooks := .later }
def ChunkSmallUptoCardSaid : Prop := Claim7.holds Tryd.pinned (.plain (OpenSpec.upto chunkSmallSpec)) chunkSmallUptoCard

/-- THE SECOND FORM's CARD OF 'lockagelaw08.ChunkEncode'. -/
def chunkEncodeUptoCard : Claim7 := { stood := { row := chunkEncodeUptoRow, standIns := [], harness := (true, "5fbbf4134576af8d9b4a75972b4b7508ce34426856f7343a57c349a4371bd338"), looks := false }, kinds := [], alts := [], laidByText := true, laidKinds := [.data, .data, .data, .data, .pinned], laidTests := true, laidLooks := .later }
def ChunkEncodeUptoCardSaid : Prop := Claim7.holds Tryd.pinned (.plain (OpenSpec.upto chunkEncodeSpec)) chunkEncodeUptoCard

/-- THE SECOND FORM's CARD OF 'lockagelaw08.ChunkLong'. -/
def chunkLongUptoCard : Claim7 := { stood := { row := chunkLongUptoRow, standIns := [], harness := (true, "5fbbf4134576af8d9b4a75972b4b7508ce34426856f7343a57c349a4371bd338"), looks := false }, kinds := [], alts := [], laidByText := true, laidKinds := [.data, .data, .data, .data, .pinned], laidTests := true, laidLooks := .later }
def ChunkLongUptoCardSaid : Prop := Claim7.holds Tryd.pinned (.plain (OpenSpec.upto chunkLongSpec)) chunkLongUptoCard

/-- THE SECOND FORM's CARD OF 'lockagelaw08.ChunkSplit'. -/
def chunkSplitUptoCard : Claim7 := { stood := { row := chunkSplitUptoRow, standIns := [], harness := (true, "5fbbf4134576af8d9b4a75972b4b7508ce34426856f7343a57c349a4371bd338"), looks := false }, kinds := [], alts := [], laidByText := true, laidKinds := [.data, .data, .data, .data, .pinned], laidTests := true, laidLooks := .later }
def ChunkSplitUptoCardSaid : Prop := Claim7.holds Tryd.pinned (.plain (OpenSpec.upto chunkSplitSpec)) chunkSplitUptoCard

/-- THE SECOND FORM's CARD OF 'lockagelaw08.ChunkBack'. -/
def chunkBackUptoCard : Claim7 := { stood := { row := chunkBackUptoRow, standIns := [], harness := (true, "5fbbf4134576af8d9b4a75972b4b7508ce34426856f7343a57c349a4371bd338"), looks := false }, kinds := [], alts := [], laidByText := true, laidKinds := [.data, .data, .data, .data, .pinned], laidTests := true, laidLooks := .later }
def ChunkBackUptoCardSaid : Prop := Claim7.holds Tryd.pinned (.plain (OpenSpec.upto chunkBackSpec)) chunkBackUptoCard
end Rows
end Go.Proofs.YthemlbefkdmegaaDoor
