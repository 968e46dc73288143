/- The plain functions of the hand contracts on header fields (names, values, trimming, small letters, items): lists of bytes alone, no program. -/
import Derived.Lib.SlTrimSet
namespace Go.Proofs.YthemlbefkdmegaaDoor.Sp
/-- A byte that may stand in a name, told as the program asks it. -/
def nameC (c : UInt8) : Bool := (48 ≤ c && c ≤ 57) || ((97 ≤ c && c ≤ 122) || ((65 ≤ c && c ≤ 90) || ([33, 35, 36, 37, 38, 39, 42, 43, 45, 46, 94, 95, 96, 124, 126] : List UInt8).contains c))
def allB (p : UInt8 → Bool) (l : List UInt8) : Bool := l.all p
def nameB (l : List UInt8) : Bool := !l.isEmpty && (decide (l.length ≤ 40) && allB nameC l)
def valC (c : UInt8) : Bool := c == 9 || (32 ≤ c && c ≤ 126)
def trim (l : List UInt8) : List UInt8 := Lib.trimS l [32, 9]
def valB (l : List UInt8) : Bool := decide (l.length ≤ 200) && (trim l == l && allB valC l)
def lowC (c : UInt8) : UInt8 := if 65 ≤ c && c ≤ 90 then c + 32 else c
def lower (l : List UInt8) : List UInt8 := l.map lowC
/-- A text's parts between bytes that are c. -/
def parts (c : UInt8) : List UInt8 → List (List UInt8)
  | [] => [[]]
  | b :: l => if b == c then [] :: parts c l else
    match parts c l with
    | [] => [[b]]
    | p :: r => (b :: p) :: r
/-- A text ahead of its first byte c (whole, if there is none), behind it, and whether there is one. -/
def cutL (c : UInt8) (l : List UInt8) : List UInt8 := if c ∈ l then l.takeWhile (· != c) else l
def cutR (c : UInt8) (l : List UInt8) : List UInt8 := if c ∈ l then (l.dropWhile (· != c)).drop 1 else []
def cutIs (c : UInt8) (l : List UInt8) : Bool := l.contains c
def items (l : List UInt8) : List (List UInt8) := ((parts 44 l).map fun p => lower (trim p)).filter fun p => !p.isEmpty
end Go.Proofs.YthemlbefkdmegaaDoor.Sp
