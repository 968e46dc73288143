/-
  DERIVED. GIVEN WITH THE SEED: THE CARDS: each row of YtemhokkfefidlaaGreatDoorRows.lean that lists a variable, with what it lists TIED to the program's text (the seventh form; the later family's looks); each row that meets fmt, with fmt's text TOLD by the authors' own Lean function (tested against real Go, not proved from fmt's source: count such statements apart). THE CARD IS WHAT COUNTS. Prove the row's statement (the work); the ties are given (YtemhokkfefidlaaGreatDoorTie.lean); close each card by the builder's one call (the guide's Derived/Test/ToyasCard.lean, 'card_holds'). Laid BY PROGRAM, IN A SANDBOX (cutbox-door.mjs). By AI agents, Wed Nov 11 2026. No macro, syntax, notation, axiom, sorry.
-/
import Derived.Test.YtemhokkfefidlaaGreatDoorRows
import GoSem.ClaimSeven
namespace Go.Proofs.YtemhokkfefidlaaGreatDoor
namespace Rows

/-- THE TIED CARD OF 'lockagelaw06.HeadText'. -/
def headTextCard : Claim7 := { stood := { row := headTextRow, standIns := [], harness := (true, "e63d419b619dd4e3c09ae204f6094c0a68fa81316cde007a7c69d4a862e4a459"), looks := false }, kinds := [], alts := [], laidByText := true, laidKinds := [.data, .data, .data, .data, .pinned], laidTests := true, laidLooks := .later }
def HeadTextCardSaid : Prop := Claim7.holds Tryz.pinned (.plain (OpenSpec.ofChange headTextSpec)) headTextCard

/-- THE TIED CARD OF 'lockagelaw06.HeadSmall'. -/
def headSmallCard : Claim7 := { stood := { row := headSmallRow, standIns := [], harness := (true, "e63d419b619dd4e3c09ae204f6094c0a68fa81316cde007a7c69d4a862e4a459"), looks := false }, kinds := [], alts := [], laidByText := true, laidKinds := [.data, .data, .data, .data, .pinned], laidTests := true, laidLooks := .later }
def HeadSmallCardSaid : Prop := Claim7.holds Tryz.pinned (.plain (OpenSpec.ofChange headSmallSpec)) headSmallCard

/-- THE TIED CARD OF 'lockagelaw06.HeadAny'. -/
def headAnyCard : Claim7 := { stood := { row := headAnyRow, standIns := [], harness := (true, "e63d419b619dd4e3c09ae204f6094c0a68fa81316cde007a7c69d4a862e4a459"), looks := false }, kinds := [], alts := [], laidByText := true, laidKinds := [.data, .data, .data, .data, .pinned], laidTests := true, laidLooks := .later }
def HeadAnyCardSaid : Prop := Claim7.holds Tryz.pinned (.plain (OpenSpec.ofChange headAnySpec)) headAnyCard

/-- THE TIED CARD OF 'lockagelaw06.HeadMade'. -/
def headMadeCard : Claim7 := { stood := { row := headMadeRow, standIns := [], harness := (true, "e63d419b619dd4e3c09ae204f6094c0a68fa81316cde007a7c69d4a862e4a459"), looks := false }, kinds := [], alts := [], laidByText := true, laidKinds := [.data, .data, .data, .data, .pinned], laidTests := true, laidLooks := .later }
def HeadMadeCardSaid : Prop := Claim7.holds Tryz.pinned (.plain (OpenSpec.ofChange headMadeSpec)) headMadeCard

/-- THE TIED CARD OF 'lockagelaw06.HeadLimits'. -/
def headLimitsCard : Claim7 := { stood := { row := headLimitsRow, standIns := [], harness := (true, "e63d419b619dd4e3c09ae204f6094c0a68fa81316cde007a7c69d4a862e4a459"), looks := false }, kinds := [], alts := [], laidByText := true, laidKinds := [.data, .data, .data, .data, .pinned], laidTests := true, laidLooks := .later }
def HeadLimitsCardSaid : Prop := Claim7.holds Tryz.pinned (.plain (OpenSpec.ofChange headLimitsSpec)) headLimitsCard

/-- THE SECOND FORM's CARD OF 'lockagelaw06.HeadText'. -/
def headTextUptoCard : Claim7 := { stood := { row := headTextUptoRow, standIns := [], harness := (true, "e63d419b619dd4e3c09ae204f6094c0a68fa81316cde007a7c69d4a862e4a459"), looks := false }, kinds := [], alts := [], laidByText := true, laidKinds := [.data, .data, .data, .data, .pinned], laidTests := true, laidLooks := .later }
def HeadTextUptoCardSaid : Prop := Claim7.holds Tryz.pinned (.plain (OpenSpec.upto headTextSpec)) headTextUptoCard

/-- THE SECOND FORM's CARD OF 'lockagelaw06.HeadSmall'. -/
def headSmallUptoCard : Claim7 := { stood := { row := headSmallUptoRow, standIns := [], harness := (true, "e63d419b619dd4e3c09ae204f6094c0a68fa81316cde007a7c69d4a862e4a459"), looks := false }, kinds := [], alts := [], laidByText := true, laidKinds := [.data, .data, .data, .data, .pinned], laidTests := true, laidLooks := .later }
def HeadSmallUptoCardSaid : Prop := Claim7.holds Tryz.pinned (.plain (OpenSpec.upto headSmallSpec)) headSmallUptoCard

/-- THE SECOND FORM's CARD OF 'lockagelaw06.HeadAny'. -/
def headAnyUptoCard : Claim7 := { stood := { row := headAnyUptoRow, standIns := [], harness := (true, "e63d419b619dd4e3c09ae204f6094c0a68fa81316cde007a7c69d4a862e4a459"), looks := false }, kinds := [], alts := [], laidByText := true, laidKinds := [.data, .data, .data, .data, .pinned], laidTests := true, laidLooks := .later }
def HeadAnyUptoCardSaid : Prop := Claim7.holds Tryz.pinned (.plain (OpenSpec.upto headAnySpec)) headAnyUptoCard

/-- THE SECOND FORM's CARD OF 'lockagelaw06.HeadMade'. -/
def headMadeUptoCard : Claim7 := { stood := { row := headMadeUptoRow, standIns := [], harness := (true, "e63d419b619dd4e3c09ae204f6094c0a68fa81316cde007a7c69d4a862e4a459"), looks := false }, kinds := [], alts := [], laidByText := true, laidKinds := [.data, .data, .data, .data, .pinned], laidTests := true, laidLooks := .later }
def HeadMadeUptoCardSaid : Prop := Claim7.holds Tryz.pinned (.plain (OpenSpec.upto headMadeSpec)) headMadeUptoCard

/-- THE SECOND FORM's CARD OF 'lockagelaw06.HeadLimits'. -/
def headLimitsUptoCard : Claim7 := { stood := { row := headLimitsUptoRow, standIns := [], harness := (true, "e63d419b619dd4e3c09ae204f6094c0a68fa81316cde007a7c69d4a862e4a459"), looks := false }, kinds := [], alts := [], laidByText := true, laidKinds := [.data, .data, .data, .data, .pinned], laidTests := true, laidLooks := .later }
def HeadLimitsUptoCardSaid : Prop := Claim7.holds Tryz.pinned (.plain (OpenSpec.upto headLimitsSpec)) headLimitsUptoCard
end Rows
end Go.Proofs.YtemhokkfefidlaaGreatDoor
