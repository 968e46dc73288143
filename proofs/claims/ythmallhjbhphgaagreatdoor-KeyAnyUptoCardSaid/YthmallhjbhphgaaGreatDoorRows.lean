/-
  NARROWER THAN 'FOR EVERY INPUT', by the rows' own cells (each row's printed sentence says how): KeyAny: laid · KeyMade: laid · KeyShared: laid · KeyFits: laid · KeyValues: laid · KeySame: laid.
  DERIVED. THE GIVEN ROWS OF THIS SEAT. 6 by the template 'for every input the law returns true; each argument reads behind the call as it read before'; 0 by the template 'total and deterministic' (their statements: YthmallhjbhphgaaGreatDoorTotals.lean).
  GIVEN WITH THE SEED: the statements are not yours to turn. If you find one false, say at which input.
  Laid BY PROGRAM, IN A SANDBOX (cutbox-rows.mjs): the forced cells as the released guide's own fill.sh prints them over the translation 418b35cb9239776e… (all of the seat's roots in one cut). By AI agents, Wed Nov 11 2026. No macro, syntax, notation, axiom, sorry.
-/
import Derived.Test.YthmallhjbhphgaaGreatDoorChecked
import GoSem.PinnedTables
import GoSem.Claim
import GoSem.ClaimJoined
import GoSem.ClaimMapViews
import Derived.JoinedTies
import Derived.KernelRfl
namespace Go.Proofs.YthmallhjbhphgaaGreatDoor
/- THE CELL 'sum', in the pinned program and in every row, IS THE sha256 OF THE DUMP (.gsa) THAT YthmallhjbhphgaaGreatDoorProg.lean LOADS. Nothing in Lean hashes anything: it is a label: what it is worth is what the hold of that sum in a sandbox is worth. -/
noncomputable def Tryz.pinned : Pinned := { name := "ythmallhjbhphgaagreatdoor", sum := "418b35cb9239776e6e414c8cf2fbad4bea345f42b874915f86805d963b68a871", checked := Tryz.checked }
namespace Rows
def none {H : Type} : Left H := { results := [], args := [] }

/- WHAT THE LISTED PACKAGE-LEVEL VARIABLES READ AS WHEN THE CALL BEGINS. Each datum BY PROGRAM (the guide's laid-datum.mjs) off the statement by which the dump's own 'gosem.cut.vars' lays the variable. In a bare row this is a premise. The card (YthmallhjbhphgaaGreatDoorCards.lean) ties it to the program's text. -/
def laid_unicode_utf8_acceptRanges {H : Type} : DataW H := .agg [.agg [.lit (.int .u8 128), .lit (.int .u8 191)], .agg [.lit (.int .u8 160), .lit (.int .u8 191)], .agg [.lit (.int .u8 128), .lit (.int .u8 159)], .agg [.lit (.int .u8 144), .lit (.int .u8 191)], .agg [.lit (.int .u8 128), .lit (.int .u8 143)], .agg [.lit (.int .u8 0), .lit (.int .u8 0)], .agg [.lit (.int .u8 0), .lit (.int .u8 0)], .agg [.lit (.int .u8 0), .lit (.int .u8 0)], .agg [.lit (.int .u8 0), .lit (.int .u8 0)], .agg [.lit (.int .u8 0), .lit (.int .u8 0)], .agg [.lit (.int .u8 0), .lit (.int .u8 0)], .agg [.lit (.int .u8 0), .lit (.int .u8 0)], .agg [.lit (.int .u8 0), .lit (.int .u8 0)], .agg [.lit (.int .u8 0), .lit (.int .u8 0)], .agg [.lit (.int .u8 0), .lit (.int .u8 0)], .agg [.lit (.int .u8 0), .lit (.int .u8 0)]]
/-- One of Go's own tables, pinned by name: the form's constant. -/
def laid_unicode_utf8_first : DataW Unit := Go.Pinned.utf8First

/-- 'lockagelaw16.KeyAny': WHATEVER THE INPUT: true; the input reads as it did. -/
def keyAnySpec : ChangeSpec := { name := "keyAny", fn := fun _ => fun
  | [d1, d2, d3, d4] => { results := [.lit (.bool true)], args := [d1, d2, d3, d4] }
  | _ => none }
def keyAnyRow : OpenClaim := { program := "ythmallhjbhphgaagreatdoor", sum := "418b35cb9239776e6e414c8cf2fbad4bea345f42b874915f86805d963b68a871", func := "lockage/lockagelaw16.KeyAny", spec := "keyAny", inPlace := ["internal/bytealg.IndexByteString", "internal/bytealg.IndexString", "internal/abi.NoEscape", "internal/bytealg.MakeNoZero"], unfollowed := true, recurses := true, named := ["internal/bytealg.MaxLen", "unicode/utf8.first", "unicode/utf8.acceptRanges"], apart := false, laid := [("unicode/utf8.acceptRanges", laid_unicode_utf8_acceptRanges), ("unicode/utf8.first", laid_unicode_utf8_first)] }
def KeyAnySaid : Prop := keyAnyRow.holds Tryz.pinned (OpenSpec.ofChange keyAnySpec)

/-- ITS FALSE NEIGHBOUR: 'it returns false'. Refute it at one input. -/
def keyAnyWrong : ChangeSpec := { name := "keyAny", fn := fun _ => fun
  | [d1, d2, d3, d4] => { results := [.lit (.bool false)], args := [d1, d2, d3, d4] }
  | _ => none }
def KeyAnyWrongFalsely : Prop := keyAnyRow.holds Tryz.pinned (OpenSpec.ofChange keyAnyWrong)

/-- 'lockagelaw16.KeyMade': WHATEVER THE INPUT: true; the input reads as it did. -/
def keyMadeSpec : ChangeSpec := { name := "keyMade", fn := fun _ => fun
  | [d1, d2, d3, d4, d5] => { results := [.lit (.bool true)], args := [d1, d2, d3, d4, d5] }
  | _ => none }
def keyMadeRow : OpenClaim := { program := "ythmallhjbhphgaagreatdoor", sum := "418b35cb9239776e6e414c8cf2fbad4bea345f42b874915f86805d963b68a871", func := "lockage/lockagelaw16.KeyMade", spec := "keyMade", inPlace := ["internal/bytealg.IndexByteString", "internal/bytealg.IndexString", "internal/abi.NoEscape", "internal/bytealg.MakeNoZero"], unfollowed := true, recurses := true, named := ["internal/bytealg.MaxLen", "unicode/utf8.first", "unicode/utf8.acceptRanges"], apart := false, laid := [("unicode/utf8.acceptRanges", laid_unicode_utf8_acceptRanges), ("unicode/utf8.first", laid_unicode_utf8_first)] }
def KeyMadeSaid : Prop := keyMadeRow.holds Tryz.pinned (OpenSpec.ofChange keyMadeSpec)

/-- ITS FALSE NEIGHBOUR: 'it returns false'. Refute it at one input. -/
def keyMadeWrong : ChangeSpec := { name := "keyMade", fn := fun _ => fun
  | [d1, d2, d3, d4, d5] => { results := [.lit (.bool false)], args := [d1, d2, d3, d4, d5] }
  | _ => none }
def KeyMadeWrongFalsely : Prop := keyMadeRow.holds Tryz.pinned (OpenSpec.ofChange keyMadeWrong)

/-- 'lockagelaw16.KeyShared': WHATEVER THE INPUT: true; the input reads as it did. -/
def keySharedSpec : ChangeSpec := { name := "keyShared", fn := fun _ => fun
  | [d1, d2, d3] => { results := [.lit (.bool true)], args := [d1, d2, d3] }
  | _ => none }
def keySharedRow : OpenClaim := { program := "ythmallhjbhphgaagreatdoor", sum := "418b35cb9239776e6e414c8cf2fbad4bea345f42b874915f86805d963b68a871", func := "lockage/lockagelaw16.KeyShared", spec := "keyShared", inPlace := ["internal/bytealg.IndexByteString", "internal/bytealg.IndexString", "internal/abi.NoEscape", "internal/bytealg.MakeNoZero"], unfollowed := true, recurses := true, named := ["internal/bytealg.MaxLen", "unicode/utf8.first", "unicode/utf8.acceptRanges"], apart := false, laid := [("unicode/utf8.acceptRanges", laid_unicode_utf8_acceptRanges), ("unicode/utf8.first", laid_unicode_utf8_first)] }
def KeySharedSaid : Prop := keySharedRow.holds Tryz.pinned (OpenSpec.ofChange keySharedSpec)

/-- ITS FALSE NEIGHBOUR: 'it returns false'. Refute it at one input. -/
def keySharedWrong : ChangeSpec := { name := "keyShared", fn := fun _ => fun
  | [d1, d2, d3] => { results := [.lit (.bool false)], args := [d1, d2, d3] }
  | _ => none }
def KeySharedWrongFalsely : Prop := keySharedRow.holds Tryz.pinned (OpenSpec.ofChange keySharedWrong)

/-- 'lockagelaw16.KeyFits': WHATEVER THE INPUT: true; the input reads as it did. -/
def keyFitsSpec : ChangeSpec := { name := "keyFits", fn := fun _ => fun
  | [d1, d2, d3, d4] => { results := [.lit (.bool true)], args := [d1, d2, d3, d4] }
  | _ => none }
def keyFitsRow : OpenClaim := { program := "ythmallhjbhphgaagreatdoor", sum := "418b35cb9239776e6e414c8cf2fbad4bea345f42b874915f86805d963b68a871", func := "lockage/lockagelaw16.KeyFits", spec := "keyFits", inPlace := ["internal/bytealg.IndexByteString", "internal/bytealg.IndexString", "internal/abi.NoEscape", "internal/bytealg.MakeNoZero"], unfollowed := true, recurses := true, named := ["internal/bytealg.MaxLen", "unicode/utf8.first", "unicode/utf8.acceptRanges"], apart := false, laid := [("unicode/utf8.acceptRanges", laid_unicode_utf8_acceptRanges), ("unicode/utf8.first", laid_unicode_utf8_first)] }
def KeyFitsSaid : Prop := keyFitsRow.holds Tryz.pinned (OpenSpec.ofChange keyFitsSpec)

/-- ITS FALSE NEIGHBOUR: 'it returns false'. Refute it at one input. -/
def keyFitsWrong : ChangeSpec := { name := "keyFits", fn := fun _ => fun
  | [d1, d2, d3, d4] => { results := [.lit (.bool false)], args := [d1, d2, d3, d4] }
  | _ => none }
def KeyFitsWrongFalsely : Prop := keyFitsRow.holds Tryz.pinned (OpenSpec.ofChange keyFitsWrong)

/-- 'lockagelaw16.KeyValues': WHATEVER THE INPUT: true; the input reads as it did. -/
def keyValuesSpec : ChangeSpec := { name := "keyValues", fn := fun _ => fun
  | [d1, d2, d3] => { results := [.lit (.bool true)], args := [d1, d2, d3] }
  | _ => none }
def keyValuesRow : OpenClaim := { program := "ythmallhjbhphgaagreatdoor", sum := "418b35cb9239776e6e414c8cf2fbad4bea345f42b874915f86805d963b68a871", func := "lockage/lockagelaw16.KeyValues", spec := "keyValues", inPlace := ["internal/bytealg.IndexByteString", "internal/bytealg.IndexString", "internal/abi.NoEscape", "internal/bytealg.MakeNoZero"], unfollowed := true, recurses := true, named := ["internal/bytealg.MaxLen", "unicode/utf8.first", "unicode/utf8.acceptRanges"], apart := false, laid := [("unicode/utf8.acceptRanges", laid_unicode_utf8_acceptRanges), ("unicode/utf8.first", laid_unicode_utf8_first)] }
def KeyValuesSaid : Prop := keyValuesRow.holds Tryz.pinned (OpenSpec.ofChange keyValuesSpec)

/-- ITS FALSE NEIGHBOUR: 'it returns false'. Refute it at one input. -/
def keyValuesWrong : ChangeSpec := { name := "keyValues", fn := fun _ => fun
  | [d1, d2, d3] => { results := [.lit (.bool false)], args := [d1, d2, d3] }
  | _ => none }
def KeyValuesWrongFalsely : Prop := keyValuesRow.holds Tryz.pinned (OpenSpec.ofChange keyValuesWrong)

/-- 'lockagelaw16.KeySame': WHATEVER THE INPUT: true; the input reads as it did. -/
def keySameSpec : ChangeSpec := { name := "keySame", fn := fun _ => fun
  | [d1, d2, d3] => { results := [.lit (.bool true)], args := [d1, d2, d3] }
  | _ => none }
def keySameRow : OpenClaim := { program := "ythmallhjbhphgaagreatdoor", sum := "418b35cb9239776e6e414c8cf2fbad4bea345f42b874915f86805d963b68a871", func := "lockage/lockagelaw16.KeySame", spec := "keySame", inPlace := ["internal/bytealg.IndexByteString", "internal/bytealg.IndexString", "internal/abi.NoEscape", "internal/bytealg.MakeNoZero"], unfollowed := true, recurses := true, named := ["internal/bytealg.MaxLen", "unicode/utf8.first", "unicode/utf8.acceptRanges"], apart := false, laid := [("unicode/utf8.acceptRanges", laid_unicode_utf8_acceptRanges), ("unicode/utf8.first", laid_unicode_utf8_first)] }
def KeySameSaid : Prop := keySameRow.holds Tryz.pinned (OpenSpec.ofChange keySameSpec)

/-- ITS FALSE NEIGHBOUR: 'it returns false'. Refute it at one input. -/
def keySameWrong : ChangeSpec := { name := "keySame", fn := fun _ => fun
  | [d1, d2, d3] => { results := [.lit (.bool false)], args := [d1, d2, d3] }
  | _ => none }
def KeySameWrongFalsely : Prop := keySameRow.holds Tryz.pinned (OpenSpec.ofChange keySameWrong)

/- THE SECOND FORM. 'bulk': how many values and letters a reading holds, each counted each time it is reached (what is shared counts as often as it is met; a slice's spare places count too). A statement '..UptoSaid' is the law's where the arguments, and the package variables that the reading takes, are together of bulk at most 1048576: NARROWER than '..Said'. Prove '..Said' where nothing that the law and all that it calls make is longer than what came in: it says more and counts as full. Else prove '..UptoSaid'. A law counts once. -/
mutual
def uptoBulk {H : Type} : DataW H → Nat
  | .lit (.string bytes) => bytes.length + 1
  | .lit _ => 1
  | .nil => 1
  | .ptr d => uptoBulk d + 1
  | .slice elems spare => uptoBulkAll elems + uptoBulkAll spare + 1
  | .agg parts => uptoBulkAll parts + 1
  | .iface _ d => uptoBulk d + 1
  | .map entries => uptoBulkEntries entries + 1
  | .held _ => 1
def uptoBulkAll {H : Type} : List (DataW H) → Nat
  | [] => 0
  | d :: r => uptoBulk d + uptoBulkAll r
def uptoBulkEntries {H : Type} : List (Lit × DataW H) → Nat
  | [] => 0
  | x :: r => uptoBulkEntry x + uptoBulkEntries r
def uptoBulkEntry {H : Type} : Lit × DataW H → Nat
  | (.string bytes, d) => bytes.length + uptoBulk d + 1
  | (_, d) => uptoBulk d + 1
 end
def uptoSmall : (H : Type) → List (DataW H) → Bool := fun _ ds => decide (uptoBulkAll ds ≤ 1048576)
def OpenSpec.upto (s : _root_.Go.ChangeSpec) : _root_.Go.OpenSpec := { _root_.Go.OpenSpec.ofChange s with cond := some uptoSmall }

/-- 'lockagelaw16.KeyAny', WHERE WHAT IT READS IS OF BULK AT MOST 1048576: true; the input reads as it did. -/
def keyAnyUptoRow : OpenClaim := { program := "ythmallhjbhphgaagreatdoor", sum := "418b35cb9239776e6e414c8cf2fbad4bea345f42b874915f86805d963b68a871", func := "lockage/lockagelaw16.KeyAny", spec := "keyAny", inPlace := ["internal/bytealg.IndexByteString", "internal/bytealg.IndexString", "internal/abi.NoEscape", "internal/bytealg.MakeNoZero"], unfollowed := true, recurses := true, named := ["internal/bytealg.MaxLen", "unicode/utf8.first", "unicode/utf8.acceptRanges"], apart := false, laid := [("unicode/utf8.acceptRanges", laid_unicode_utf8_acceptRanges), ("unicode/utf8.first", laid_unicode_utf8_first)], narrowed := true }
def KeyAnyUptoSaid : Prop := keyAnyUptoRow.holds Tryz.pinned (OpenSpec.upto keyAnySpec)

/-- 'lockagelaw16.KeyMade', WHERE WHAT IT READS IS OF BULK AT MOST 1048576: true; the input reads as it did. -/
def keyMadeUptoRow : OpenClaim := { program := "ythmallhjbhphgaagreatdoor", sum := "418b35cb9239776e6e414c8cf2fbad4bea345f42b874915f86805d963b68a871", func := "lockage/lockagelaw16.KeyMade", spec := "keyMade", inPlace := ["internal/bytealg.IndexByteString", "internal/bytealg.IndexString", "internal/abi.NoEscape", "internal/bytealg.MakeNoZero"], unfollowed := true, recurses := true, named := ["internal/bytealg.MaxLen", "unicode/utf8.first", "unicode/utf8.acceptRanges"], apart := false, laid := [("unicode/utf8.acceptRanges", laid_unicode_utf8_acceptRanges), ("unicode/utf8.first", laid_unicode_utf8_first)], narrowed := true }
def KeyMadeUptoSaid : Prop := keyMadeUptoRow.holds Tryz.pinned (OpenSpec.upto keyMadeSpec)

/-- 'lockagelaw16.KeyShared', WHERE WHAT IT READS IS OF BULK AT MOST 1048576: true; the input reads as it did. -/
def keySharedUptoRow : OpenClaim := { program := "ythmallhjbhphgaagreatdoor", sum := "418b35cb9239776e6e414c8cf2fbad4bea345f42b874915f86805d963b68a871", func := "lockage/lockagelaw16.KeyShared", spec := "keyShared", inPlace := ["internal/bytealg.IndexByteString", "internal/bytealg.IndexString", "internal/abi.NoEscape", "internal/bytealg.MakeNoZero"], unfollowed := true, recurses := true, named := ["internal/bytealg.MaxLen", "unicode/utf8.first", "unicode/utf8.acceptRanges"], apart := false, laid := [("unicode/utf8.acceptRanges", laid_unicode_utf8_acceptRanges), ("unicode/utf8.first", laid_unicode_utf8_first)], narrowed := true }
def KeySharedUptoSaid : Prop := keySharedUptoRow.holds Tryz.pinned (OpenSpec.upto keySharedSpec)

/-- 'lockagelaw16.KeyFits', WHERE WHAT IT READS IS OF BULK AT MOST 1048576: true; the input reads as it did. -/
def keyFitsUptoRow : OpenClaim := { program := "ythmallhjbhphgaagreatdoor", sum := "418b35cb9239776e6e414c8cf2fbad4bea345f42b874915f86805d963b68a871", func := "lockage/lockagelaw16.KeyFits", spec := "keyFits", inPlace := ["internal/bytealg.IndexByteString", "internal/bytealg.IndexString", "internal/abi.NoEscape", "internal/bytealg.MakeNoZero"], unfollowed := true, recurses := true, named := ["internal/bytealg.MaxLen", "unicode/utf8.first", "unicode/utf8.acceptRanges"], apart := false, laid := [("unicode/utf8.acceptRanges", laid_unicode_utf8_acceptRanges), ("unicode/utf8.first", laid_unicode_utf8_first)], narrowed := true }
def KeyFitsUptoSaid : Prop := keyFitsUptoRow.holds Tryz.pinned (OpenSpec.upto keyFitsSpec)

/-- 'lockagelaw16.KeyValues', WHERE WHAT IT READS IS OF BULK AT MOST 1048576: true; the input reads as it did. -/
def keyValuesUptoRow : OpenClaim := { program := "ythmallhjbhphgaagreatdoor", sum := "418b35cb9239776e6e414c8cf2fbad4bea345f42b874915f86805d963b68a871", func := "lockage/lockagelaw16.KeyValues", spec := "keyValues", inPlace := ["internal/bytealg.IndexByteString", "internal/bytealg.IndexString", "internal/abi.NoEscape", "internal/bytealg.MakeNoZero"], unfollowed := true, recurses := true, named := ["internal/bytealg.MaxLen", "unicode/utf8.first", "unicode/utf8.acceptRanges"], apart := false, laid := [("unicode/utf8.acceptRanges", laid_unicode_utf8_acceptRanges), ("unicode/utf8.first", laid_unicode_utf8_first)], narrowed := true }
def KeyValuesUptoSaid : Prop := keyValuesUptoRow.holds Tryz.pinned (OpenSpec.upto keyValuesSpec)

/-- 'lockagelaw16.KeySame', WHERE WHAT IT READS IS OF BULK AT MOST 1048576: true; the input reads as it did. -/
def keySameUptoRow : OpenClaim := { program := "ythmallhjbhphgaagreatdoor", sum := "418b35cb9239776e6e414c8cf2fbad4bea345f42b874915f86805d963b68a871", func := "lockage/lockagelaw16.KeySame", spec := "keySame", inPlace := ["internal/bytealg.IndexByteString", "internal/bytealg.IndexString", "internal/abi.NoEscape", "internal/bytealg.MakeNoZero"], unfollowed := true, recurses := true, named := ["internal/bytealg.MaxLen", "unicode/utf8.first", "unicode/utf8.acceptRanges"], apart := false, laid := [("unicode/utf8.acceptRanges", laid_unicode_utf8_acceptRanges), ("unicode/utf8.first", laid_unicode_utf8_first)], narrowed := true }
def KeySameUptoSaid : Prop := keySameUptoRow.holds Tryz.pinned (OpenSpec.upto keySameSpec)

end Rows
end Go.Proofs.YthmallhjbhphgaaGreatDoor
