/-
  DERIVED. GIVEN WITH THE SEED: THE CARDS: each row of YthmallhjbhphgaaGreatDoorRows.lean that lists a variable, with what it lists TIED to the program's text (the seventh form; the later family's looks); each row that meets fmt, with fmt's text TOLD by the authors' own Lean function (tested against real Go, not proved from fmt's source: count such statements apart). THE CARD IS WHAT COUNTS. Prove the row's statement (the work); the ties are given (YthmallhjbhphgaaGreatDoorTie.lean); close each card by the builder's one call (the guide's Derived/Test/ToyasCard.lean, 'card_holds'). Laid BY PROGRAM, IN A SANDBOX (cutbox-door.mjs). By AI agents, Wed Nov 11 2026. No macro, syntax, notation, axiom, sorry.
-/
import Derived.Test.YthmallhjbhphgaaGreatDoorRows
import GoSem.ClaimSeven
namespace Go.Proofs.YthmallhjbhphgaaGreatDoor
namespace Rows

/-- THE TIED CARD OF 'lockagelaw16.KeyAny'. -/
def keyAnyCard : Claim7 := { stood := { row := keyAnyRow, standIns := [], harness := (true, "63dd3357b3be62694aad4d50392c1f0dfd1306c1aa7af642a521e77a313f43b2"), looks := false }, kinds := [], alts := [], laidByText := true, laidKinds := [.data, .pinned], laidTests := true, laidLooks := .later }
def KeyAnyCardSaid : Prop := Claim7.holds Tryz.pinned (.plain (OpenSpec.ofChange keyAnySpec)) keyAnyCard

/-- THE TIED CARD OF 'lockagelaw16.KeyMade'. -/
def keyMadeCard : Claim7 := { stood := { row := keyMadeRow, standIns := [], harness := (true, "63dd3357b3be62694aad4d50392c1f0dfd1306c1aa7af642a521e77a313f43b2"), looks := false }, kinds := [], alts := [], laidByText := true, laidKinds := [.data, .pinned], laidTests := true, laidLooks := .later }
def KeyMadeCardSaid : Prop := Claim7.holds Tryz.pinned (.plain (OpenSpec.ofChange keyMadeSpec)) keyMadeCard

/-- THE TIED CARD OF 'lockagelaw16.KeyShared'. -/
def keySharedCard : Claim7 := { stood := { row := keySharedRow, standIns := [], harness := (true, "63dd3357b3be62694aad4d50392c1f0dfd1306c1aa7af642a521e77a313f43b2"), looks := false }, kinds := [], alts := [], laidByText := true, laidKinds := [.data, .pinned], laidTests := true, laidLooks := .later }
def KeySharedCardSaid : Prop := Claim7.holds Tryz.pinned (.plain (OpenSpec.ofChange keySharedSpec)) keySharedCard

/-- THE TIED CARD OF 'lockagelaw16.KeyFits'. -/
def keyFitsCard : Claim7 := { stood := { row := keyFitsRow, standIns := [], harness := (true, "63dd3357b3be62694aad4d50392c1f0dfd1306c1aa7af642a521e77a313f43b2"), looks := false }, kinds := [], alts := [], laidByText := true, laidKinds := [.data, .pinned], laidTests := true, laidLooks := .later }
def KeyFitsCardSaid : Prop := Claim7.holds Tryz.pinned (.plain (OpenSpec.ofChange keyFitsSpec)) keyFitsCard

/-- THE TIED CARD OF 'lockagelaw16.KeyValues'. -/
def keyValuesCard : Claim7 := { stood := { row := keyValuesRow, standIns := [], harness := (true, "63dd3357b3be62694aad4d50392c1f0dfd1306c1aa7af642a521e77a313f43b2"), looks := false }, kinds := [], alts := [], laidByText := true, laidKinds := [.data, .pinned], laidTests := true, laidLooks := .later }
def KeyValuesCardSaid : Prop := Claim7.holds Tryz.pinned (.plain (OpenSpec.ofChange keyValuesSpec)) keyValuesCard

/-- THE TIED CARD OF 'lockagelaw16.KeySame'. -/
def keySameCard : Claim7 := { stood := { row := keySameRow, standIns := [], harness := (true, "63dd3357b3be62694aad4d50392c1f0dfd1306c1aa7af642a521e77a313f43b2"), looks := false }, kinds := [], alts := [], laidByText := true, laidKinds := [.data, .pinned], laidTests := true, laidLooks := .later }
def KeySameCardSaid : Prop := Claim7.holds Tryz.pinned (.plain (OpenSpec.ofChange keySameSpec)) keySameCard

/-- THE SECOND FORM's CARD OF 'lockagelaw16.KeyAny'. -/
def keyAnyUptoCard : Claim7 := { stood := { row := keyAnyUptoRow, standIns := [], harness := (true, "63dd3357b3be62694aad4d50392c1f0dfd1306c1aa7af642a521e77a313f43b2"), looks := false }, kinds := [], alts := [], laidByText := true, laidKinds := [.data, .pinned], laidTests := true, laidLooks := .later }
def KeyAnyUptoCardSaid : Prop := Claim7.holds Tryz.pinned (.plain (OpenSpec.upto keyAnySpec)) keyAnyUptoCard

/-- THE SECOND FORM's CARD OF 'lockagelaw16.KeyMade'. -/
def keyMadeUptoCard : Claim7 := { stood := { row := keyMadeUptoRow, standIns := [], harness := (true, "63dd3357b3be62694aad4d50392c1f0dfd1306c1aa7af642a521e77a313f43b2"), looks := false }, kinds := [], alts := [], laidByText := true, laidKinds := [.data, .pinned], laidTests := true, laidLooks := .later }
def KeyMadeUptoCardSaid : Prop := Claim7.holds Tryz.pinned (.plain (OpenSpec.upto keyMadeSpec)) keyMadeUptoCard

/-- THE SECOND FORM's CARD OF 'lockagelaw16.KeyShared'. -/
def keySharedUptoCard : Claim7 := { stood := { row := keySharedUptoRow, standIns := [], harness := (true, "63dd3357b3be62694aad4d50392c1f0dfd1306c1aa7af642a521e77a313f43b2"), looks := false }, kinds := [], alts := [], laidByText := true, laidKinds := [.data, .pinned], laidTests := true, laidLooks := .later }
def KeySharedUptoCardSaid : Prop := Claim7.holds Tryz.pinned (.plain (OpenSpec.upto keySharedSpec)) keySharedUptoCard

/-- THE SECOND FORM's CARD OF 'lockagelaw16.KeyFits'. -/
def keyFitsUptoCard : Claim7 := { stood := { row := keyFitsUptoRow, standIns := [], harness := (true, "63dd3357b3be62694aad4d50392c1f0dfd1306c1aa7af642a521e77a313f43b2"), looks := false }, kinds := [], alts := [], laidByText := true, laidKinds := [.data, .pinned], laidTests := true, laidLooks := .later }
def KeyFitsUptoCardSaid : Prop := Claim7.holds Tryz.pinned (.plain (OpenSpec.upto keyFitsSpec)) keyFitsUptoCard

/-- THE SECOND FORM's CARD OF 'lockagelaw16.KeyValues'. -/
def keyValuesUptoCard : Claim7 := { stood := { row := keyValuesUptoRow, standIns := [], harness := (true, "63dd3357b3be62694aad4d50392c1f0dfd1306c1aa7af642a521e77a313f43b2"), looks := false }, kinds := [], alts := [], laidByText := true, laidKinds := [.data, .pinned], laidTests := true, laidLooks := .later }
def KeyValuesUptoCardSaid : Prop := Claim7.holds Tryz.pinned (.plain (OpenSpec.upto keyValuesSpec)) keyValuesUptoCard

/-- THE SECOND FORM's CARD OF 'lockagelaw16.KeySame'. -/
def keySameUptoCard : Claim7 := { stood := { row := keySameUptoRow, standIns := [], harness := (true, "63dd3357b3be62694aad4d50392c1f0dfd1306c1aa7af642a521e77a313f43b2"), looks := false }, kinds := [], alts := [], laidByText := true, laidKinds := [.data, .pinned], laidTests := true, laidLooks := .later }
def KeySameUptoCardSaid : Prop := Claim7.holds Tryz.pinned (.plain (OpenSpec.upto keySameSpec)) keySameUptoCard
end Rows
end Go.Proofs.YthmallhjbhphgaaGreatDoor
