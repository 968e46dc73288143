/-
  DERIVED. GIVEN WITH THE SEED: THE CARDS: each row of YtapeodbgobkjeaaGreatDoorRows.lean that lists a variable, with what it lists TIED to the program's text (the seventh form; the later family's looks); each row that meets fmt, with fmt's text TOLD by the authors' own Lean function (tested against real Go, not proved from fmt's source: count such statements apart). THE CARD IS WHAT COUNTS. Prove the row's statement (the work); the ties are given (YtapeodbgobkjeaaGreatDoorTie.lean); close each card by the builder's one call (the guide's Derived/Test/ToyasCard.lean, 'card_holds'). Laid BY PROGRAM, IN A SANDBOX (cutbox-door.mjs). By AI agents, Wed Nov 11 2026. No macro, syntax, notation, axiom, sorry.
-/
import Derived.Test.YtapeodbgobkjeaaGreatDoorRows
import GoSem.ClaimSeven
namespace Go.Proofs.YtapeodbgobkjeaaGreatDoor
namespace Rows

/-- THE TIED CARD OF 'lockagelaw09.MessageSmall'. -/
def messageSmallCard : Claim7 := { stood := { row := messageSmallRow, standIns := [], harness := (true, "1fb0a7956ff79600720ff19179ad07fe46c16b11850d4ec42b1784db3a54094e"), looks := false }, kinds := [], alts := [], laidByText := true, laidKinds := [.data, .data, .data, .data, .pinned], laidTests := true, laidLooks := .later }
def MessageSmallCardSaid : Prop := Claim7.holds Tryz.pinned (.plain (OpenSpec.ofChange messageSmallSpec)) messageSmallCard

/-- THE TIED CARD OF 'lockagelaw09.MessageAny'. -/
def messageAnyCard : Claim7 := { stood := { row := messageAnyRow, standIns := [], harness := (true, "1fb0a7956ff79600720ff19179ad07fe46c16b11850d4ec42b1784db3a54094e"), looks := false }, kinds := [], alts := [], laidByText := true, laidKinds := [.data, .data, .data, .data, .pinned], laidTests := true, laidLooks := .later }
def MessageAnyCardSaid : Prop := Claim7.holds Tryz.pinned (.plain (OpenSpec.ofChange messageAnySpec)) messageAnyCard

/-- THE TIED CARD OF 'lockagelaw09.MessageSpoilt'. -/
def messageSpoiltCard : Claim7 := { stood := { row := messageSpoiltRow, standIns := [], harness := (true, "1fb0a7956ff79600720ff19179ad07fe46c16b11850d4ec42b1784db3a54094e"), looks := false }, kinds := [], alts := [], laidByText := true, laidKinds := [.data, .data, .data, .data, .pinned], laidTests := true, laidLooks := .later }
def MessageSpoiltCardSaid : Prop := Claim7.holds Tryz.pinned (.plain (OpenSpec.ofChange messageSpoiltSpec)) messageSpoiltCard

/-- THE TIED CARD OF 'lockagelaw09.MessageLong'. -/
def messageLongCard : Claim7 := { stood := { row := messageLongRow, standIns := [], harness := (true, "1fb0a7956ff79600720ff19179ad07fe46c16b11850d4ec42b1784db3a54094e"), looks := false }, kinds := [], alts := [], laidByText := true, laidKinds := [.data, .data, .data, .data, .pinned], laidTests := true, laidLooks := .later }
def MessageLongCardSaid : Prop := Claim7.holds Tryz.pinned (.plain (OpenSpec.ofChange messageLongSpec)) messageLongCard

/-- THE TIED CARD OF 'lockagelaw09.MessagePrint'. -/
def messagePrintCard : Claim7 := { stood := { row := messagePrintRow, standIns := [], harness := (true, "1fb0a7956ff79600720ff19179ad07fe46c16b11850d4ec42b1784db3a54094e"), looks := false }, kinds := [], alts := [], laidByText := true, laidKinds := [.data, .data, .data, .data, .pinned], laidTests := true, laidLooks := .later }
def MessagePrintCardSaid : Prop := Claim7.holds Tryz.pinned (.plain (OpenSpec.ofChange messagePrintSpec)) messagePrintCard

/-- THE TIED CARD OF 'lockagelaw09.MessageSplit'. -/
def messageSplitCard : Claim7 := { stood := { row := messageSplitRow, standIns := [], harness := (true, "1fb0a7956ff79600720ff19179ad07fe46c16b11850d4ec42b1784db3a54094e"), looks := false }, kinds := [], alts := [], laidByText := true, laidKinds := [.data, .data, .data, .data, .pinned], laidTests := true, laidLooks := .later }
def MessageSplitCardSaid : Prop := Claim7.holds Tryz.pinned (.plain (OpenSpec.ofChange messageSplitSpec)) messageSplitCard

/-- THE TIED CARD OF 'lockagelaw09.MessageBack'. -/
def messageBackCard : Claim7 := { stood := { row := messageBackRow, standIns := [], harness := (true, "1fb0a7956ff79600720ff19179ad07fe46c16b11850d4ec42b1784db3a54094e"), looks := false }, kinds := [], alts := [], laidByText := true, laidKinds := [.data, .data, .data, .data, .pinned], laidTests := true, laidLooks := .later }
def MessageBackCardSaid : Prop := Claim7.holds Tryz.pinned (.plain (OpenSpec.ofChange messageBackSpec)) messageBackCard

/-- THE SECOND FORM's CARD OF 'lockagelaw09.MessageSmall'. -/
def messageSmallUptoCard : Claim7 := { stood := { row := messageSmallUptoRow, standIns := [], harness := (true, "1fb0a7956ff79600720ff19179ad07fe46c16b11850d4ec42b1784db3a54094e"), looks := false }, kinds := [], alts := [], laidByText := true, laidKinds := [.data, .data, .data, .data, .pinned], laidTests := true, laidLooks := .later }
def MessageSmallUptoCardSaid : Prop := Claim7.holds Tryz.pinned (.plain (OpenSpec.upto messageSmallSpec)) messageSmallUptoCard

/-- THE SECOND FORM's CARD OF 'lockagelaw09.MessageAny'. -/
def messageAnyUptoCard : Claim7 := { stood := { row := messageAnyUptoRow, standIns := [], harness := (true, "1fb0a7956ff79600720ff19179ad07fe46c16b11850d4ec42b1784db3a54094e"), looks := false }, kinds := [], alts := [], laidByText := true, laidKinds := [.data, .data, .data, .data, .pinned], laidTests := true, laidLooks := .later }
def MessageAnyUptoCardSaid : Prop := Claim7.holds Tryz.pinned (.plain (OpenSpec.upto messageAnySpec)) messageAnyUptoCard

/-- THE SECOND FORM's CARD OF 'lockagelaw09.MessageSpoilt'. -/
def messageSpoiltUptoCard : Claim7 := { stood := { row := messageSpoiltUptoRow, standIns := [], harness := (true, "1fb0a7956ff79600720ff19179ad07fe46c16b11850d4ec42b1784db3a54094e"), looks := false }, kinds := [], alts := [], laidByText := true, laidKinds := [.data, .data, .data, .data, .pinned], laidTests := true, laidLooks := .later }
def MessageSpoiltUptoCardSaid : Prop := Claim7.holds Tryz.pinned (.plain (OpenSpec.upto messageSpoiltSpec)) messageSpoiltUptoCard

/-- THE SECOND FORM's CARD OF 'lockagelaw09.MessageLong'. -/
def messageLongUptoCard : Claim7 := { stood := { row := messageLongUptoRow, standIns := [], harness := (true, "1fb0a7956ff79600720ff19179ad07fe46c16b11850d4ec42b1784db3a54094e"), looks := false }, kinds := [], alts := [], laidByText := true, laidKinds := [.data, .data, .data, .data, .pinned], laidTests := true, laidLooks := .later }
def MessageLongUptoCardSaid : Prop := Claim7.holds Tryz.pinned (.plain (OpenSpec.upto messageLongSpec)) messageLongUptoCard

/-- THE SECOND FORM's CARD OF 'lockagelaw09.MessagePrint'. -/
def messagePrintUptoCard : Claim7 := { stood := { row := messagePrintUptoRow, standIns := [], harness := (true, "1fb0a7956ff79600720ff19179ad07fe46c16b11850d4ec42b1784db3a54094e"), looks := false }, kinds := [], alts := [], laidByText := true, laidKinds := [.data, .data, .data, .data, .pinned], laidTests := true, laidLooks := .later }
def MessagePrintUptoCardSaid : Prop := Claim7.holds Tryz.pinned (.plain (OpenSpec.upto messagePrintSpec)) messagePrintUptoCard

/-- THE SECOND FORM's CARD OF 'lockagelaw09.MessageSplit'. -/
def messageSplitUptoCard : Claim7 := { stood := { row := messageSplitUptoRow, standIns := [], harness := (true, "1fb0a7956ff79600720ff19179ad07fe46c16b11850d4ec42b1784db3a54094e"), looks := false }, kinds := [], alts := [], laidByText := true, laidKinds := [.data, .data, .data, .data, .pinned], laidTests := true, laidLooks := .later }
def MessageSplitUptoCardSaid : Prop := Claim7.holds Tryz.pinned (.plain (OpenSpec.upto messageSplitSpec)) messageSplitUptoCard

/-- THE SECOND FORM's CARD OF 'lockagelaw09.MessageBack'. -/
def messageBackUptoCard : Claim7 := { stood := { row := messageBackUptoRow, standIns := [], harness := (true, "1fb0a7956ff79600720ff19179ad07fe46c16b11850d4ec42b1784db3a54094e"), looks := false }, kinds := [], alts := [], laidByText := true, laidKinds := [.data, .data, .data, .data, .pinned], laidTests := true, laidLooks := .later }
def MessageBackUptoCardSaid : Prop := Claim7.holds Tryz.pinned (.plain (OpenSpec.upto messageBackSpec)) messageBackUptoCard
end Rows
end Go.Proofs.YtapeodbgobkjeaaGreatDoor
