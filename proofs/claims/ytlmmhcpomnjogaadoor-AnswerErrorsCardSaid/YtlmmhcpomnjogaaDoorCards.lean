/-
  DERIVED. GIVEN WITH THE SEED: THE CARDS: each row of YtlmmhcpomnjogaaDoorRows.lean that lists a variable, with what it lists TIED to the program's text (the seventh form; the later family's looks); each row that meets fmt, with fmt's text TOLD by the authors' own Lean function (tested against real Go, not proved from fmt's source: count such statements apart). THE CARD IS WHAT COUNTS. Prove the row's statement (the work); the ties are given (YtlmmhcpomnjogaaDoorTie.lean); close each card by the builder's one call (the guide's Derived/Test/ToyasCard.lean, 'card_holds'). Laid BY PROGRAM, IN A SANDBOX (cutbox-door.mjs). By AI agents, Wed Nov 11 2026. No macro, syntax, notation, axiom, sorry.
-/
import Derived.Test.YtlmmhcpomnjogaaDoorRows
import GoSem.ClaimSeven
namespace Go.Proofs.YtlmmhcpomnjogaaDoor
namespace Rows

/-- THE TIED CARD OF 'lockagelaw19.AnswerErrors'. -/
def answerErrorsCard : Claim7 := { stood := { row := answerErrorsRow, standIns := [], harness := (true, "4dcf2e4bf3a80849dfacd04534470c44a823efcd7876b81e52c083b5d3a2110e"), looks := false }, kinds := [], alts := [], laidByText := true, laidKinds := [.data, .data, .data, .data, .pinned], laidTests := true, laidLooks := .later }
def AnswerErrorsCardSaid : Prop := Claim7.holds Tryd.pinned (.plain (OpenSpec.ofChange answerErrorsSpec)) answerErrorsCard

/-- THE SECOND FORM's CARD OF 'lockagelaw19.AnswerErrors'. -/
def answerErrorsUptoCard : Claim7 := { stood := { row := answerErrorsUptoRow, standIns := [], harness := (true, "4dcf2e4bf3a80849dfacd04534470c44a823efcd7876b81e52c083b5d3a2110e"), looks := false }, kinds := [], alts := [], laidByText := true, laidKinds := [.data, .data, .data, .data, .pinned], laidTests := true, laidLooks := .later }
def AnswerErrorsUptoCardSaid : Prop := Claim7.holds Tryd.pinned (.plain (OpenSpec.upto answerErrorsSpec)) answerErrorsUptoCard
end Rows
end Go.Proofs.YtlmmhcpomnjogaaDoor
