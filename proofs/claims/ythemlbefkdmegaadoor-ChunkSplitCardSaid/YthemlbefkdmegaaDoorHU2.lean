/- What the world holds of the library's tables (the table by which trailing zeros are counted): kept by whatever leaves elder blocks alone; out of the row's own condition. -/
import Derived.Test.YthemlbefkdmegaaDoorProg
import Derived.Lib.LaidTab
import Derived.Lib.TrailingZeros
import Derived.Stop.LaidErr
import Derived.KernelRfl
import Derived.Below
namespace Go.Proofs.YthemlbefkdmegaaDoor.H
open Go.RowKit
theorem tab_below {P : Program} {n : String} {g : Nat} {k : IntKind} {zs : List Int} {w w' : World} (hg : P.globalNamed n = some g) (h : Lib.TabIs P w n k zs) (hb : Below w.heap.size w w') : Lib.TabIs P w' n k zs := by
  unfold Lib.TabIs World.var? at h ⊢
  rw [hg] at h ⊢
  simp only [Option.bind_some] at h ⊢
  have hlt : g < w.heap.size := by
    rcases Nat.lt_or_ge g w.heap.size with h' | h'
    · exact h'
    · rw [Array.getElem?_eq_none h'] at h; cases h
  rw [hb.block g hlt]
  exact h
def dbTab : List Int := Lib.deBruijn64tab.map fun (n : Nat) => (n : Int)
/-- The tables that the program reads are as their initialisers lay them. -/
def GlobOk (w : World) : Prop := Lib.TabIs Tryd.prog w "math/bits.deBruijn64tab" .u8 dbTab
theorem GlobOk.below {w w' : World} (h : GlobOk w) (hb : Below w.heap.size w w') : GlobOk w' := tab_below (g := 2) (by kernel_rfl) h hb
theorem laidMet_drop {P : Program} {w : World} : ∀ (i : Nat) (l : List (String × DataW Unit)), laidMet P l w → laidMet P (l.drop i) w
  | 0, _, h => h
  | _ + 1, [], h => h
  | i + 1, _ :: l, h => laidMet_drop i l h.tail
theorem GlobOk.of_laid {w : World} {l : List (String × DataW Unit)} (i : Nat) (h : laidMet Tryd.prog l w) (hl : l[i]? = some ("math/bits.deBruijn64tab", Lib.tabData .u8 dbTab)) : GlobOk w := by
  have h2 := laidMet_drop i l h
  obtain ⟨hi, he⟩ := List.getElem?_eq_some_iff.1 hl
  rw [List.drop_eq_getElem_cons hi, he] at h2
  exact Lib.tabIs_of_head (g := 2) (t := 111) (e := 5) (n := 64) (by kernel_rfl) (by kernel_rfl) (by kernel_rfl) (by kernel_rfl) (by kernel_rfl) (by kernel_rfl) h2
end Go.Proofs.YthemlbefkdmegaaDoor.H
namespace Go.Proofs.YthemlbefkdmegaaDoor.P
theorem glob_below {w w' : Go.World} (h : H.GlobOk w) (hb : Go.RowKit.Below w.heap.size w w') : H.GlobOk w' := h.below hb
end Go.Proofs.YthemlbefkdmegaaDoor.P
