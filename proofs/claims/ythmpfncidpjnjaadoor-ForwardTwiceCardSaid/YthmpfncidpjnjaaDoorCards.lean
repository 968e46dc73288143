/-
  DERIVED. GIVEN WITH THE SEED: THE CARDS: each row of YthmpfncidpjnjaaDoorRows.lean that lists a variable, with what it lists TIED to the program's text (the seventh form; the later family's looks); each row that meets fmt, with fmt's text TOLD by the authors' own Lean function (tested against real Go, not proved from fmt's source: count such statements apart). THE CARD IS WHAT COUNTS. Prove the row's statement (the work); the ties are given (YthmpfncidpjnjaaDoorTie.lean); close each card by the builder's one call (the guide's Derived/Test/ToyasCard.lean, 'card_holds'). Laid BY PROGRAM, IN A SANDBOX (cutbox-door.mjs). By AI agents, Wed Nov 11 2026. No macro, syntax, notation, axiom, sorry.
-/
import Derived.Test.YthmpfncidpjnjaaDoorRows
import GoSem.ClaimSeven
namespace Go.Proofs.YthmpfncidpjnjaaDoor
namespace Rows

/-- THE TIED CARD OF 'lockagelaw15.ForwardAny'. -/
def forwardAnyCard : Claim7 := { stood := { row := forwardAnyRow, standIns := [], harness := (true, "248bfeeee49cf65d3a2d03bb778f6c286e011f002a199364424f316424c4f997"), looks := false }, kinds := [], alts := [], laidByText := true, laidKinds := [.data, .data, .data, .data, .pinned], laidTests := true, laidLooks := .later }
def ForwardAnyCardSaid : Prop := Claim7.holds Tryd.pinned (.plain (OpenSpec.ofChange forwardAnySpec)) forwardAnyCard

/-- THE TIED CARD OF 'lockagelaw15.ForwardMade'. -/
def forwardMadeCard : Claim7 := { stood := { row := forwardMadeRow, standIns := [], harness := (true, "248bfeeee49cf65d3a2d03bb778f6c286e011f002a199364424f316424c4f997"), looks := false }, kinds := [], alts := [], laidByText := true, laidKinds := [.data, .data, .data, .data, .pinned], laidTests := true, laidLooks := .later }
def ForwardMadeCardSaid : Prop := Claim7.holds Tryd.pinned (.plain (OpenSpec.ofChange forwardMadeSpec)) forwardMadeCard

/-- THE TIED CARD OF 'lockagelaw15.ForwardHops'. -/
def forwardHopsCard : Claim7 := { stood := { row := forwardHopsRow, standIns := [], harness := (true, "248bfeeee49cf65d3a2d03bb778f6c286e011f002a199364424f316424c4f997"), looks := false }, kinds := [], alts := [], laidByText := true, laidKinds := [.data, .data, .data, .data, .pinned], laidTests := true, laidLooks := .later }
def ForwardHopsCardSaid : Prop := Claim7.holds Tryd.pinned (.plain (OpenSpec.ofChange forwardHopsSpec)) forwardHopsCard

/-- THE TIED CARD OF 'lockagelaw15.ForwardTwice'. -/
def forwardTwiceCard : Claim7 := { stood := { row := forwardTwiceRow, standIns := [], harness := (true, "248bfeeee49cf65d3a2d03bb778f6c286e011f002a199364424f316424c4f997"), looks := false }, kinds := [], alts := [], laidByText := true, laidKinds := [.data, .data, .data, .data, .pinned], laidTests := true, laidLooks := .later }
def ForwardTwiceCardSaid : Prop := Claim7.holds Tryd.pinned (.plain (OpenSpec.ofChange forwardTwiceSpec)) forwardTwiceCard

/-- THE SECOND FORM's CARD OF 'lockagelaw15.ForwardAny'. -/
def forwardAnyUptoCard : Claim7 := { stood := { row := forwardAnyUptoRow, standIns := [], harness := (true, "248bfeeee49cf65d3a2d03bb778f6c286e011f002a199364424f316424c4f997"), looks := false }, kinds := [], alts := [], laidByText := true, laidKinds := [.data, .data, .data, .data, .pinned], laidTests := true, laidLooks := .later }
def ForwardAnyUptoCardSaid : Prop := Claim7.holds Tryd.pinned (.plain (OpenSpec.upto forwardAnySpec)) forwardAnyUptoCard

/-- THE SECOND FORM's CARD OF 'lockagelaw15.ForwardMade'. -/
def forwardMadeUptoCard : Claim7 := { stood := { row := forwardMadeUptoRow, standIns := [], harness := (true, "248bfeeee49cf65d3a2d03bb778f6c286e011f002a199364424f316424c4f997"), looks := false }, kinds := [], alts := [], laidByText := true, laidKinds := [.data, .data, .data, .data, .pinned], laidTests := true, laidLooks := .later }
def ForwardMadeUptoCardSaid : Prop := Claim7.holds Tryd.pinned (.plain (OpenSpec.upto forwardMadeSpec)) forwardMadeUptoCard

/-- THE SECOND FORM's CARD OF 'lockagelaw15.ForwardHops'. -/
def forwardHopsUptoCard : Claim7 := { stood := { row := forwardHopsUptoRow, standIns := [], harness := (true, "248bfeeee49cf65d3a2d03bb778f6c286e011f002a199364424f316424c4f997"), looks := false }, kinds := [], alts := [], laidByText := true, laidKinds := [.data, .data, .data, .data, .pinned], laidTests := true, laidLooks := .later }
def ForwardHopsUptoCardSaid : Prop := Claim7.holds Tryd.pinned (.plain (OpenSpec.upto forwardHopsSpec)) forwardHopsUptoCard

/-- THE SECOND FORM's CARD OF 'lockagelaw15.ForwardTwice'. -/
def forwardTwiceUptoCard : Claim7 := { stood := { row := forwardTwiceUptoRow, standIns := [], harness := (true, "248bfeeee49cf65d3a2d03bb778f6c286e011f002a199364424f316424c4f997"), looks := false }, kinds := [], alts := [], laidByText := true, laidKinds := [.data, .data, .data, .data, .pinned], laidTests := true, laidLooks := .later }
def ForwardTwiceUptoCardSaid : Prop := Claim7.holds Tryd.pinned (.plain (OpenSpec.upto forwardTwiceSpec)) forwardTwiceUptoCard
end Rows
end Go.Proofs.YthmpfncidpjnjaaDoor
