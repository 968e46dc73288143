/- How far chunks are read, in a block of a call's own: state, left, line, many, and the body in a row that it owns. -/
import Derived.Test.YthemlbefkdmegaaDoorHMa
import Derived.Lib.Builder
import Derived.Lib.AppendStr
namespace Go.Proofs.YthemlbefkdmegaaDoor.H
open Go.RowKit Go.Shelf Go Go.Lib
/-- A decoder in block b. -/
def DecAt (B b : Nat) (st left : Int) (line : ByteArray) (many : Int) (body : ByteArray) (w : World) : Prop :=
  B ≤ b ∧ ∃ v, w.heap[b]? = some (.cells #[.int .i64 st, .int .i64 left, .string line, .int .i64 many, v] 55 (0, 0)) ∧ w.ownsRow B 5 1 v body.size (strCells body) ∧ v.ownBlock ≠ some b
theorem DecAt.below {B b : Nat} {st left : Int} {line : ByteArray} {many : Int} {body : ByteArray} {w w' : World} (h : DecAt B b st left line many body w) (hb : Below w.heap.size w w') : DecAt B b st left line many body w' := by
  obtain ⟨hB, v, hk, hown, hne⟩ := h
  have hlt : b < w.heap.size := by
    rcases Nat.lt_or_ge b w.heap.size with h' | h'
    · exact h'
    · simp [Array.getElem?_eq_none h'] at hk
  refine ⟨hB, v, (hb.block b hlt).trans hk, ?_, hne⟩
  refine hown.kept (row := none) ⟨hb.os, hb.tape, hb.output, hb.size, fun k hk _ => hb.block k hk⟩ ?_
  cases e : v.ownBlock with
  | none => exact .inl rfl
  | some g => exact .inr (by simp)
theorem DecAt.lt {B b : Nat} {st left : Int} {line : ByteArray} {many : Int} {body : ByteArray} {w : World} (h : DecAt B b st left line many body w) : b < w.heap.size := by
  obtain ⟨hB, v, hk, hown, hne⟩ := h
  rcases Nat.lt_or_ge b w.heap.size with h' | h'
  · exact h'
  · simp [Array.getElem?_eq_none h'] at hk
theorem DecAt.kept {B b : Nat} {st left st' left' : Int} {line line' : ByteArray} {many many' : Int} {body : ByteArray} {v x : Value} {i : Nat} {w : World} (hB : B ≤ b) (hk : w.heap[b]? = some (.cells #[.int .i64 st, .int .i64 left, .string line, .int .i64 many, v] 55 (0, 0)))
    (hown : w.ownsRow B 5 1 v body.size (strCells body)) (hne : v.ownBlock ≠ some b)
    (he : (#[.int .i64 st, .int .i64 left, .string line, .int .i64 many, v] : Array Value).setIfInBounds i x = #[.int .i64 st', .int .i64 left', .string line', .int .i64 many', v]) :
    DecAt B b st' left' line' many' body (w.setCell ⟨b, i, none⟩ x) := by
  refine ⟨hB, v, ?_, ?_, hne⟩
  · rw [← he]
    simp [World.setCell, Array.getElem?_modify, hk]
  · exact hown.kept (row := some b) ⟨rfl, rfl, rfl, by simp [World.setCell], fun k _ hk => Below.heap_setCell _ _ _ _ (fun e => hk (by simp [e]))⟩ (Or.inr hne)
theorem DecAt.set0 {B b : Nat} {st left : Int} {line : ByteArray} {many : Int} {body : ByteArray} {w : World} (h : DecAt B b st left line many body w) (x : Int) : DecAt B b x left line many body (w.setCell ⟨b, 0, none⟩ (.int .i64 x)) := by
  obtain ⟨hB, v, hk, hown, hne⟩ := h
  exact DecAt.kept hB hk hown hne rfl
theorem DecAt.set1 {B b : Nat} {st left : Int} {line : ByteArray} {many : Int} {body : ByteArray} {w : World} (h : DecAt B b st left line many body w) (x : Int) : DecAt B b st x line many body (w.setCell ⟨b, 1, none⟩ (.int .i64 x)) := by
  obtain ⟨hB, v, hk, hown, hne⟩ := h
  exact DecAt.kept hB hk hown hne rfl
theorem DecAt.set2 {B b : Nat} {st left : Int} {line : ByteArray} {many : Int} {body : ByteArray} {w : World} (h : DecAt B b st left line many body w) (x : ByteArray) : DecAt B b st left x many body (w.setCell ⟨b, 2, none⟩ (.string x)) := by
  obtain ⟨hB, v, hk, hown, hne⟩ := h
  exact DecAt.kept hB hk hown hne rfl
theorem DecAt.set3 {B b : Nat} {st left : Int} {line : ByteArray} {many : Int} {body : ByteArray} {w : World} (h : DecAt B b st left line many body w) (x : Int) : DecAt B b st left line x body (w.setCell ⟨b, 3, none⟩ (.int .i64 x)) := by
  obtain ⟨hB, v, hk, hown, hne⟩ := h
  exact DecAt.kept hB hk hown hne rfl
theorem DecAt.cells {B b : Nat} {st left : Int} {line : ByteArray} {many : Int} {body : ByteArray} {w : World} (h : DecAt B b st left line many body w) :
    w.cell? ⟨b, 0, none⟩ = some (.int .i64 st) ∧ w.cell? ⟨b, 1, none⟩ = some (.int .i64 left) ∧ w.cell? ⟨b, 2, none⟩ = some (.string line) ∧ w.cell? ⟨b, 3, none⟩ = some (.int .i64 many) ∧ ∀ i, w.frozen? ⟨b, i, none⟩ = false := by
  obtain ⟨hB, v, hk, hown, hne⟩ := h
  exact ⟨by rw [cell_of_heap hk]; rfl, by rw [cell_of_heap hk]; rfl, by rw [cell_of_heap hk]; rfl, by rw [cell_of_heap hk]; rfl, fun i => frozen_of_heap hk i⟩
end Go.Proofs.YthemlbefkdmegaaDoor.H
