/- The contract of chunk.lines: the table of what lines do. -/
import Derived.Test.YthemlbefkdmegaaDoorHX1
import Derived.Carry
import Derived.MapKept
namespace Go.Proofs.YthemlbefkdmegaaDoor.H
open Go.RowKit Go.Shelf Go Go.MapKept
/-- A new key in a map that was laid last. -/
theorem run_put_last {P : Program} {mty kt et : TypeId} {d : TypeDesc} (hm : P.underlying mty = some (.map kt et)) (hd : P.underlying kt = some d) (w : World) (es : Array MapEntry) (clock : Nat) (key value : Value) (hk : IsKey d key) (hf : Instr.findNow d key es.toList 0 = some none) :
    (Instr.mapUpdate mty (.map (some w.heap.size)) key value).run P (w.alloc (.map es clock)) = .ok () (w.alloc (.map (es.push { key := key, val := value, born := clock }) (clock + 1))) := by
  have hb : (w.alloc (.map es clock)).heap[w.heap.size]? = some (.map es clock) := heap_alloc_new w _
  have hs : ({ w.alloc (.map es clock) with heap := (w.alloc (.map es clock)).heap.setIfInBounds w.heap.size (.map (es.push { key := key, val := value, born := clock }) (clock + 1)) } : World) = w.alloc (.map (es.push { key := key, val := value, born := clock }) (clock + 1)) := by
    have : (w.alloc (.map es clock)).heap.setIfInBounds w.heap.size (.map (es.push { key := key, val := value, born := clock }) (clock + 1)) = (w.alloc (.map (es.push { key := key, val := value, born := clock }) (clock + 1))).heap := by
      show (w.heap.push (.map es clock)).setIfInBounds w.heap.size _ = w.heap.push _
      apply Array.ext'
      simp
    rw [this]
    rfl
  simp [Instr.mapUpdate, run_underlying hm, MapKept.run_getObj_map hb, MapKept.run_checkKey hd hk, MapKept.run_findKey hd hf, MapKept.run_setObj_map _ hb, Result.andThen]
  exact hs
/-- A key that a map has. -/
theorem run_look {P : Program} {mty kt et : TypeId} {d : TypeDesc} {w : World} {r clock : Nat} {es : Array MapEntry} (hm : P.underlying mty = some (.map kt et)) (hd : P.underlying kt = some d) (hb : w.heap[r]? = some (.map es clock)) (key v : Value) (i : Nat) (hk : IsKey d key) (hf : Instr.findNow d key es.toList 0 = some (some (i, v))) :
    (Instr.lookup mty (.map (some r)) key false).run P w = .ok v w := by
  simp [Instr.lookup, run_underlying hm, MapKept.run_getObj_map hb, MapKept.run_checkKey hd hk, MapKept.run_findKey hd hf, Result.andThen]
end Go.Proofs.YthemlbefkdmegaaDoor.H
namespace Go.Proofs.YthemlbefkdmegaaDoor.P
open Go.RowKit Go.Shelf Go.Lib Go.Proofs.YthemlbefkdmegaaDoorW.PrintWords Go.Proofs.YthemlbefkdmegaaDoorW.PrintLast Go.Proofs.YthemlbefkdmegaaDoorW.PrintMore
open H (DecAt)
def linesM : Array MapEntry := #[{ key := .int .i64 0, val := .func (.func 40) #[] #[], born := 0 }, { key := .int .i64 2, val := .func (.func 41) #[] #[], born := 1 }, { key := .int .i64 3, val := .func (.func 42) #[] #[], born := 2 }]
set_option maxHeartbeats 400000 in
set_option maxRecDepth 100000 in
theorem lines_any (w : World) :
    Calls Tryd.prog 32 #[] w fun e w' => e = .returned (.map (some w.heap.size)) ∧ w' = w.alloc (.map linesM 3) := by
  have hmm := @run_makeMap Tryd.prog
  have e1 := H.run_put_last Tryd.underlying70 Tryd.underlying3 w #[] 0 (.int .i64 0) (.func (.func 40) #[] #[]) rfl rfl
  have e2 := H.run_put_last Tryd.underlying70 Tryd.underlying3 w #[{ key := .int .i64 0, val := .func (.func 40) #[] #[], born := 0 }] 1 (.int .i64 2) (.func (.func 41) #[] #[]) rfl rfl
  have e3 := H.run_put_last Tryd.underlying70 Tryd.underlying3 w #[{ key := .int .i64 0, val := .func (.func 40) #[] #[], born := 0 }, { key := .int .i64 2, val := .func (.func 41) #[] #[], born := 1 }] 2 (.int .i64 3) (.func (.func 42) #[] #[]) rfl rfl
  simp only [List.push_toArray, List.nil_append, List.cons_append, Nat.zero_add, Nat.reduceAdd] at e1 e2 e3
  go_enter Tryd.func32, Tryd.ntmps32
  go_wp2_with fail
  go_ret
  exact ⟨rfl, rfl⟩
end Go.Proofs.YthemlbefkdmegaaDoor.P
