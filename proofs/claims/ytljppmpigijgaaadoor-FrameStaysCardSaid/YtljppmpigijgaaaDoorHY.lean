/- Short names of the words that printed texts say most often. -/
import Derived.Test.YtljppmpigijgaaaDoorWWords
import Derived.Test.YtljppmpigijgaaaDoorWLast
import Derived.Test.YtljppmpigijgaaaDoorWMore
namespace Go.Proofs.YtljppmpigijgaaaDoor.P
open Go.RowKit Go.Proofs.YtljppmpigijgaaaDoorW.PrintWords Go.Proofs.YtljppmpigijgaaaDoorW.PrintLast Go.Proofs.YtljppmpigijgaaaDoorW.PrintMore
theorem bN {w : World} {g : Nat} {o : Obj} (h : w.heap[g]? = some o) (n : Nat) : (w.drewN n).heap[g]? = some o := blk_drewN h n
theorem bD {w : World} {g : Nat} {o : Obj} (h : w.heap[g]? = some o) : w.drew.heap[g]? = some o := blk_drew h
theorem bA {w : World} {g : Nat} {o : Obj} (h : w.heap[g]? = some o) (o' : Obj) : (w.alloc o').heap[g]? = some o := blk_alloc h o'
theorem aM {p : Prop} (h : p) : Aside0 p := ⟨h⟩
theorem lA {w W : World} (h : Below w.heap.size w W) (o : Obj) : Below w.heap.size w (W.alloc o) := below_alloc h o
theorem lN {B : Nat} {w W : World} (h : Below B w W) (n : Nat) : Below B w (W.drewN n) := pw_below_drewN h n
theorem lD {B : Nat} {w W : World} (h : Below B w W) : Below B w W.drew := below_drew1 h
theorem rA {α : Type} {d : Kd α} {e : Nat} {w : World} {base : Nat} {ok : Nat → Prop} {v : Value} {xs : List α} (h : d.R e w base ok v xs) (o : Obj) : d.R e (w.alloc o) base ok v xs := Kd.R_alloc h o
theorem rN {α : Type} {d : Kd α} {e : Nat} {w : World} {base : Nat} {ok : Nat → Prop} {v : Value} {xs : List α} (h : d.R e w base ok v xs) (m : Nat) : d.R e (w.drewN m) base ok v xs := Kd.R_drewN h m
theorem rD {α : Type} {d : Kd α} {e : Nat} {w : World} {base : Nat} {ok : Nat → Prop} {v : Value} {xs : List α} (h : d.R e w base ok v xs) : d.R e w.drew base ok v xs := Kd.R_drew h
theorem far6 {w : World} {g g' i : Nat} {v0 v1 v2 v3 v4 v5 : Value} {x : Option Value} (h : g' ≠ g) (hc : w.cell? ⟨g', i, none⟩ = x) :
    ((((((w.setCell ⟨g, 0, none⟩ v0).setCell ⟨g, 1, none⟩ v1).setCell ⟨g, 2, none⟩ v2).setCell ⟨g, 3, none⟩ v3).setCell ⟨g, 4, none⟩ v4).setCell ⟨g, 5, none⟩ v5).cell? ⟨g', i, none⟩ = x := by
  rw [cell_far h, cell_far h, cell_far h, cell_far h, cell_far h, cell_far h]
  exact hc
end Go.Proofs.YtljppmpigijgaaaDoor.P
