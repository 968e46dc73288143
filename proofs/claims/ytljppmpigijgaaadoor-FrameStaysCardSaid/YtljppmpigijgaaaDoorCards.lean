/-
  DERIVED. GIVEN WITH THE SEED: THE CARDS: each row of YtljppmpigijgaaaDoorRows.lean that lists a variable, with what it lists TIED to the program's text (the seventh form; the later family's looks); each row that meets fmt, with fmt's text TOLD by the authors' own Lean function (tested against real Go, not proved from fmt's source: count such statements apart). THE CARD IS WHAT COUNTS. Prove the row's statement (the work); the ties are given (YtljppmpigijgaaaDoorTie.lean); close each card by the builder's one call (the guide's Derived/Test/ToyasCard.lean, 'card_holds'). Laid BY PROGRAM, IN A SANDBOX (cutbox-door.mjs). By AI agents, Wed Nov 11 2026. No macro, syntax, notation, axiom, sorry.
-/
import Derived.Test.YtljppmpigijgaaaDoorRows
import GoSem.ClaimSeven
namespace Go.Proofs.YtljppmpigijgaaaDoor
namespace Rows

/-- THE TIED CARD OF 'lockagelaw07.FrameMade'. -/
def frameMadeCard : Claim7 := { stood := { row := frameMadeRow, standIns := [], harness := (true, "6bbeaa1dc0219bcd92e6e413a68ff24c7af166b18a677e78e0ae5e3796bad08a"), looks := false }, kinds := [], alts := [], laidByText := true, laidKinds := [.data, .pinned], laidTests := true, laidLooks := .later }
def FrameMadeCardSaid : Prop := Claim7.holds Tryd.pinned (.plain (OpenSpec.ofChange frameMadeSpec)) frameMadeCard

/-- THE TIED CARD OF 'lockagelaw07.FrameFields'. -/
def frameFieldsCard : Claim7 := { stood := { row := frameFieldsRow, standIns := [], harness := (true, "6bbeaa1dc0219bcd92e6e413a68ff24c7af166b18a677e78e0ae5e3796bad08a"), looks := false }, kinds := [], alts := [], laidByText := true, laidKinds := [.data, .pinned], laidTests := true, laidLooks := .later }
def FrameFieldsCardSaid : Prop := Claim7.holds Tryd.pinned (.plain (OpenSpec.ofChange frameFieldsSpec)) frameFieldsCard

/-- THE TIED CARD OF 'lockagelaw07.FrameLengths'. -/
def frameLengthsCard : Claim7 := { stood := { row := frameLengthsRow, standIns := [], harness := (true, "6bbeaa1dc0219bcd92e6e413a68ff24c7af166b18a677e78e0ae5e3796bad08a"), looks := false }, kinds := [], alts := [], laidByText := true, laidKinds := [.data, .pinned], laidTests := true, laidLooks := .later }
def FrameLengthsCardSaid : Prop := Claim7.holds Tryd.pinned (.plain (OpenSpec.ofChange frameLengthsSpec)) frameLengthsCard

/-- THE TIED CARD OF 'lockagelaw07.FrameSafe'. -/
def frameSafeCard : Claim7 := { stood := { row := frameSafeRow, standIns := [], harness := (true, "6bbeaa1dc0219bcd92e6e413a68ff24c7af166b18a677e78e0ae5e3796bad08a"), looks := false }, kinds := [], alts := [], laidByText := true, laidKinds := [.data, .pinned], laidTests := true, laidLooks := .later }
def FrameSafeCardSaid : Prop := Claim7.holds Tryd.pinned (.plain (OpenSpec.ofChange frameSafeSpec)) frameSafeCard

/-- THE TIED CARD OF 'lockagelaw07.FrameStays'. -/
def frameStaysCard : Claim7 := { stood := { row := frameStaysRow, standIns := [], harness := (true, "6bbeaa1dc0219bcd92e6e413a68ff24c7af166b18a677e78e0ae5e3796bad08a"), looks := false }, kinds := [], alts := [], laidByText := true, laidKinds := [.data, .pinned], laidTests := true, laidLooks := .later }
def FrameStaysCardSaid : Prop := Claim7.holds Tryd.pinned (.plain (OpenSpec.ofChange frameStaysSpec)) frameStaysCard

/-- THE SECOND FORM's CARD OF 'lockagelaw07.FrameMade'. -/
def frameMadeUptoCard : Claim7 := { stood := { row := frameMadeUptoRow, standIns := [], harness := (true, "6bbeaa1dc0219bcd92e6e413a68ff24c7af166b18a677e78e0ae5e3796bad08a"), looks := false }, kinds := [], alts := [], laidByText := true, laidKinds := [.data, .pinned], laidTests := true, laidLooks := .later }
def FrameMadeUptoCardSaid : Prop := Claim7.holds Tryd.pinned (.plain (OpenSpec.upto frameMadeSpec)) frameMadeUptoCard

/-- THE SECOND FORM's CARD OF 'lockagelaw07.FrameFields'. -/
def frameFieldsUptoCard : Claim7 := { stood := { row := frameFieldsUptoRow, standIns := [], harness := (true, "6bbeaa1dc0219bcd92e6e413a68ff24c7af166b18a677e78e0ae5e3796bad08a"), looks := false }, kinds := [], alts := [], laidByText := true, laidKinds := [.data, .pinned], laidTests := true, laidLooks := .later }
def FrameFieldsUptoCardSaid : Prop := Claim7.holds Tryd.pinned (.plain (OpenSpec.upto frameFieldsSpec)) frameFieldsUptoCard

/-- THE SECOND FORM's CARD OF 'lockagelaw07.FrameLengths'. -/
def frameLengthsUptoCard : Claim7 := { stood := { row := frameLengthsUptoRow, standIns := [], harness := (true, "6bbeaa1dc0219bcd92e6e413a68ff24c7af166b18a677e78e0ae5e3796bad08a"), looks := false }, kinds := [], alts := [], laidByText := true, laidKinds := [.data, .pinned], laidTests := true, laidLooks := .later }
def FrameLengthsUptoCardSaid : Prop := Claim7.holds Tryd.pinned (.plain (OpenSpec.upto frameLengthsSpec)) frameLengthsUptoCard

/-- THE SECOND FORM's CARD OF 'lockagelaw07.FrameSafe'. -/
def frameSafeUptoCard : Claim7 := { stood := { row := frameSafeUptoRow, standIns := [], harness := (true, "6bbeaa1dc0219bcd92e6e413a68ff24c7af166b18a677e78e0ae5e3796bad08a"), looks := false }, kinds := [], alts := [], laidByText := true, laidKinds := [.data, .pinned], laidTests := true, laidLooks := .later }
def FrameSafeUptoCardSaid : Prop := Claim7.holds Tryd.pinned (.plain (OpenSpec.upto frameSafeSpec)) frameSafeUptoCard

/-- THE SECOND FORM's CARD OF 'lockagelaw07.FrameStays'. -/
def frameStaysUptoCard : Claim7 := { stood := { row := frameStaysUptoRow, standIns := [], harness := (true, "6bbeaa1dc0219bcd92e6e413a68ff24c7af166b18a677e78e0ae5e3796bad08a"), looks := false }, kinds := [], alts := [], laidByText := true, laidKinds := [.data, .pinned], laidTests := true, laidLooks := .later }
def FrameStaysUptoCardSaid : Prop := Claim7.holds Tryd.pinned (.plain (OpenSpec.upto frameStaysSpec)) frameStaysUptoCard
end Rows
end Go.Proofs.YtljppmpigijgaaaDoor
