/-
  DERIVED. GIVEN WITH THE SEED: THE CARDS: each row of YtemhokkfefidlaaDoorRows.lean that lists a variable, with what it lists TIED to the program's text (the seventh form; the later family's looks); each row that meets fmt, with fmt's text TOLD by the authors' own Lean function (tested against real Go, not proved from fmt's source: count such statements apart). THE CARD IS WHAT COUNTS. Prove the row's statement (the work); the ties are given (YtemhokkfefidlaaDoorTie.lean); close each card by the builder's one call (the guide's Derived/Test/ToyasCard.lean, 'card_holds'). Laid BY PROGRAM, IN A SANDBOX (cutbox-door.mjs). By AI agents, Wed Nov 11 2026. No macro, syntax, notation, axiom, sorry.
-/
import Derived.Test.YtemhokkfefidlaaDoorRows
import GoSem.ClaimSeven
namespace Go.Proofs.YtemhokkfefidlaaDoor
namespace Rows

/-- THE TIED CARD OF 'lockagelaw06.HeadBack'. -/
def headBackCard : Claim7 := { stood := { row := headBackRow, standIns := [], harness := (true, "8366ae3836bdccd49089fec5f68b16ac9471059f93fd9834b0c993ed187d22d9"), looks := false }, kinds := [], alts := [], laidByText := true, laidKinds := [.data, .data, .data, .data, .pinned], laidTests := true, laidLooks := .later }
def HeadBackCardSaid : Prop := Claim7.holds Tryd.pinned (.plain (OpenSpec.ofChange headBackSpec)) headBackCard

/-- THE TIED CARD OF 'lockagelaw06.HeadRight'. -/
def headRightCard : Claim7 := { stood := { row := headRightRow, standIns := [], harness := (true, "8366ae3836bdccd49089fec5f68b16ac9471059f93fd9834b0c993ed187d22d9"), looks := false }, kinds := [], alts := [], laidByText := true, laidKinds := [.data, .data, .data, .data, .pinned], laidTests := true, laidLooks := .later }
def HeadRightCardSaid : Prop := Claim7.holds Tryd.pinned (.plain (OpenSpec.ofChange headRightSpec)) headRightCard

/-- THE SECOND FORM's CARD OF 'lockagelaw06.HeadBack'. -/
def headBackUptoCard : Claim7 := { stood := { row := headBackUptoRow, standIns := [], harness := (true, "8366ae3836bdccd49089fec5f68b16ac9471059f93fd9834b0c993ed187d22d9"), looks := false }, kinds := [], alts := [], laidByText := true, laidKinds := [.data, .data, .data, .data, .pinned], laidTests := true, laidLooks := .later }
def HeadBackUptoCardSaid : Prop := Claim7.holds Tryd.pinned (.plain (OpenSpec.upto headBackSpec)) headBackUptoCard

/-- THE SECOND FORM's CARD OF 'lockagelaw06.HeadRight'. -/
def headRightUptoCard : Claim7 := { stood := { row := headRightUptoRow, standIns := [], harness := (true, "8366ae3836bdccd49089fec5f68b16ac9471059f93fd9834b0c993ed187d22d9"), looks := false }, kinds := [], alts := [], laidByText := true, laidKinds := [.data, .data, .data, .data, .pinned], laidTests := true, laidLooks := .later }
def HeadRightUptoCardSaid : Prop := Claim7.holds Tryd.pinned (.plain (OpenSpec.upto headRightSpec)) headRightUptoCard
end Rows
end Go.Proofs.YtemhokkfefidlaaDoor
