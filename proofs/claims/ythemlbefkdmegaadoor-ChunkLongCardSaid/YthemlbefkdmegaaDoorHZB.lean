/- Several parts together: The hand contracts of package field in the form of the printed ones: plain functions and what the Go functions do; The contract of strings.Cut at a separator of one byte; The contract of field.Drop: fields whose names match none of some; The hand contracts of strings.Cut in the form of the printed ones; How far chunks are read, in a block of a call's own: state, left, line, many, and the body in a row that it owns. -/
import Derived.Test.YthemlbefkdmegaaDoorPx0
import Derived.Test.YthemlbefkdmegaaDoorHZA
import Derived.Deep.QuietTactic
import Derived.BigQuiet
import Derived.OwnWalk
import Derived.Test.YthemlbefkdmegaaDoorWWords
import Derived.Deep.RegionHeld3
import Derived.Deep.RegionWith
import Derived.Lib.Builder
import Derived.Lib.AppendStr
namespace Go.Proofs.YthemlbefkdmegaaDoor.P
open Go.RowKit Go.Proofs.YthemlbefkdmegaaDoorW.PrintWords Go.Proofs.YthemlbefkdmegaaDoorW.PrintLast Go.Proofs.YthemlbefkdmegaaDoorW.PrintMore

def field_Name.f (a0 : ByteArray) : Option Bool := if a0.size ≤ 9223372036854775806 then some (Sp.nameB a0.data.toList) else none
theorem field_Name.calls (a0 : ByteArray) (r : Bool) (w : World) (h : field_Name.f a0 = some r) :
    Calls Tryd.prog 65 #[.string a0] w fun e w' => e = .returned (.bool r) ∧ Drawn0 w w' := by
  unfold field_Name.f at h
  split at h
  · injection h with h
    subst h
    exact (H.name_any a0 w (by omega)).mono fun e w' ⟨h1, h2⟩ => ⟨h1, h2 ▸ Drawn0.refl w⟩
  · cases h
def field_Value.f (a0 : ByteArray) : Option Bool := if a0.size ≤ 9223372036854775806 then some (Sp.valB a0.data.toList) else none
theorem field_Value.calls (a0 : ByteArray) (r : Bool) (w : World) (h : field_Value.f a0 = some r) :
    Calls Tryd.prog 66 #[.string a0] w fun e w' => e = .returned (.bool r) ∧ Below w.heap.size w w' := by
  unfold field_Value.f at h
  split at h
  · injection h with h
    subst h
    exact H.value_any a0 w (by omega)
  · cases h
def field_Trim.f (a0 : ByteArray) : Option ByteArray := if a0.size ≤ 9223372036854775806 then some ⟨(Sp.trim a0.data.toList).toArray⟩ else none
theorem field_Trim.calls (a0 : ByteArray) (r : ByteArray) (w : World) (h : field_Trim.f a0 = some r) :
    Calls Tryd.prog 55 #[.string a0] w fun e w' => e = .returned (.string r) ∧ Below w.heap.size w w' := by
  unfold field_Trim.f at h
  split at h
  · injection h with h
    subst h
    exact H.trim_any a0 w (by omega)
  · cases h
def field_Lower.f (a0 : ByteArray) : Option ByteArray := if a0.size ≤ 9223372036854775806 then some ⟨(Sp.lower a0.data.toList).toArray⟩ else none
end Go.Proofs.YthemlbefkdmegaaDoor.P
namespace Go.Proofs.YthemlbefkdmegaaDoor.H
open Go.RowKit Go.Shelf Go.Lib

theorem cutlib_any (s : ByteArray) (c : UInt8) (w : World) (hs : s.size ≤ 9223372036854775806) :
    Calls Tryd.prog 62 #[.string s, .string ⟨#[c]⟩] w fun e w' => e = .returned (.tuple #[.string ⟨(Sp.cutL c s.data.toList).toArray⟩, .string ⟨(Sp.cutR c s.data.toList).toArray⟩, .bool (Sp.cutIs c s.data.toList)]) ∧ ∃ n, w' = w.drewN n := by
  have hI := Tryd.stringslite_Index_one s c w
  have hl : s.data.toList.length = s.size := by simp
  rcases index_split s.data.toList c with ⟨h1, h2⟩ | ⟨k, h1, h2, h3, h4, h5⟩
  · rw [h1] at hI
    have e1 : Sp.cutL c s.data.toList = s.data.toList := by unfold Sp.cutL; rw [if_neg h2]
    have e2 : Sp.cutR c s.data.toList = [] := by unfold Sp.cutR; rw [if_neg h2]
    have e3 : Sp.cutIs c s.data.toList = false := by unfold Sp.cutIs; simpa using h2
    rw [e1, e2, e3]
    clear e1 e2 e3 h1 h2 hl
    have K := Lib.hid hI
    clear hI
    go_enter Tryd.func62, Tryd.ntmps62
    go_wp2_with fail
    refine K.out.mono ?_; rintro e w' ⟨rfl, rfl⟩
    go_wp2_with fail
    go_ret3
    exact ⟨by simp, 0, rfl⟩
  · rw [h1] at hI
    rw [hl] at h2
    have e1 : (⟨(Sp.cutL c s.data.toList).toArray⟩ : ByteArray) = s.extract 0 k := by
      apply ba_ext
      rw [Lib.extract_data]
      unfold Sp.cutL; rw [if_pos h5, ← h3]
      simp
    have e2 : (⟨(Sp.cutR c s.data.toList).toArray⟩ : ByteArray) = s.extract (k + 1) s.size := by
      apply ba_ext
      rw [Lib.extract_to_end]
      unfold Sp.cutR; rw [if_pos h5, h4]
    have e3 : Sp.cutIs c s.data.toList = true := by unfold Sp.cutIs; simpa using h5
    rw [e1, e2, e3]
    clear e1 e2 e3 h1 h3 h4 h5 hl
    have K := Lib.hid hI
    clear hI
    have b1 : (0 : Int) ≤ (k : Int) := by omega
    have b2 : (k : Int) ≤ (s.size : Int) := by omega
    have b3 : (k : Int) + 1 ≤ (s.size : Int) := by omega
    have b4 : (0 : Int) ≤ (k : Int) + 1 := by omega
    go_enter Tryd.func62, Tryd.ntmps62
    go_wp2_with fail
    refine K.out.mono ?_; rintro e w' ⟨rfl, rfl⟩
    go_wp2_with fail
    go_quiet (fail)
    go_wp2_with fail
    go_ret3
    exact ⟨rfl, _, rfl⟩

theorem cut_any (s : ByteArray) (c : UInt8) (w : World) (hs : s.size ≤ 9223372036854775806) :
    Calls Tryd.prog 53 #[.string s, .string ⟨#[c]⟩] w fun e w' => e = .returned (.tuple #[.string ⟨(Sp.cutL c s.data.toList).toArray⟩, .string ⟨(Sp.cutR c s.data.toList).toArray⟩, .bool (Sp.cutIs c s.data.toList)]) ∧ ∃ n, w' = w.drewN n := by
  have K := Lib.hid (cutlib_any s c w hs)
  generalize (⟨(Sp.cutL c s.data.toList).toArray⟩ : ByteArray) = x at K ⊢
  generalize (⟨(Sp.cutR c s.data.toList).toArray⟩ : ByteArray) = y at K ⊢
  generalize Sp.cutIs c s.data.toList = z at K ⊢
  go_enter Tryd.func53, Tryd.ntmps53
  go_wp2_with fail
  refine K.out.mono ?_; rintro e w' ⟨rfl, n, rfl⟩
  go_wp2_with fail
  go_ret3
  exact ⟨rfl, _, rfl⟩
end Go.Proofs.YthemlbefkdmegaaDoor.H
namespace Go.Proofs.YthemlbefkdmegaaDoor.H
open Go.RowKit Go.Shelf Go.Lib Go.Proofs.YthemlbefkdmegaaDoorW.PrintWords

/-- The names match. -/
def sameName (f n : ByteArray) : Bool := Sp.lower n.data.toList == Sp.lower f.data.toList
def idxP (p : ByteArray → Bool) (l : List ByteArray) : Int := match l.findIdx? p with | some k => (k : Int) | none => -1
theorem idxP_at (p : ByteArray → Bool) (l : List ByteArray) (k : Nat) (hk : k < l.length) (h : ∀ j, j < k → p (l.getD j ByteArray.empty) = false) (hp : p (l.getD k ByteArray.empty) = true) : idxP p l = (k : Int) := by
  have e : l.findIdx? p = some k := by
    rw [List.findIdx?_eq_some_iff_getElem]
    refine ⟨hk, ?_, fun j hj => ?_⟩
    · rw [List.getD_eq_getElem?_getD, List.getElem?_eq_getElem hk] at hp; exact hp
    · have := h j hj
      rw [List.getD_eq_getElem?_getD, List.getElem?_eq_getElem (by omega)] at this
      simpa using this
  unfold idxP; rw [e]
theorem idxP_none (p : ByteArray → Bool) (l : List ByteArray) (h : ∀ j, j < l.length → p (l.getD j ByteArray.empty) = false) : idxP p l = -1 := by
  have e : l.findIdx? p = none := by
    rw [List.findIdx?_eq_none_iff]
    intro x hx
    obtain ⟨j, hj, rfl⟩ := List.getElem_of_mem hx
    have := h j hj
    rw [List.getD_eq_getElem?_getD, List.getElem?_eq_getElem hj] at this
    exact this
  unfold idxP; rw [e]
theorem idxP_any (p : ByteArray → Bool) (l : List ByteArray) : decide (0 ≤ idxP p l) = l.any p := by
  unfold idxP
  cases e : l.findIdx? p with
  | none =>
    rw [List.findIdx?_eq_none_iff] at e
    have : l.any p = false := by rw [List.any_eq_false]; intro x hx; simp [e x hx]
    rw [this]; rfl
  | some k =>
    rw [List.findIdx?_eq_some_iff_getElem] at e
    obtain ⟨h, hp, _⟩ := e
    have : l.any p = true := by rw [List.any_eq_true]; exact ⟨l[k], List.getElem_mem _, hp⟩
    rw [this]; simp
def Small (l : List ByteArray) : Prop := ∀ x ∈ l, x.size ≤ 9223372036854775807
theorem Small.at {l : List ByteArray} (h : Small l) (k : Nat) : (l.getD k ByteArray.empty).size ≤ 9223372036854775807 := by
  rw [List.getD_eq_getElem?_getD]
  cases e : l[k]? with
  | none => simp
  | some x => exact h x (List.mem_of_getElem? e)

end Go.Proofs.YthemlbefkdmegaaDoor.H
namespace Go.Proofs.YthemlbefkdmegaaDoor.P
open Go.RowKit Go.Proofs.YthemlbefkdmegaaDoorW.PrintWords Go.Proofs.YthemlbefkdmegaaDoorW.PrintLast Go.Proofs.YthemlbefkdmegaaDoorW.PrintMore

def strings_Cut.f (a0 : ByteArray) (a1 : ByteArray) : Option (ByteArray × ByteArray × Bool) :=
  if a0.size ≤ 9223372036854775806 then
    match a1.data.toList with
    | [c] => some (⟨(Sp.cutL c a0.data.toList).toArray⟩, ⟨(Sp.cutR c a0.data.toList).toArray⟩, Sp.cutIs c a0.data.toList)
    | _ => none
  else none
theorem strings_Cut.calls (a0 : ByteArray) (a1 : ByteArray) (r1 : ByteArray) (r2 : ByteArray) (r3 : Bool) (w : World) (h : strings_Cut.f a0 a1 = some (r1, r2, r3)) :
    Calls Tryd.prog 53 #[.string a0, .string a1] w fun e w' => e = .returned (.tuple #[.string r1, .string r2, .bool r3]) ∧ Drawn0 w w' := by
  unfold strings_Cut.f at h
  split at h
  · split at h
    · rename_i c hc
      injection h with h
      injection h with h1 h
      injection h with h2 h3
      subst h1 h2 h3
      have e : a1 = ⟨#[c]⟩ := H.ba_ext (by rw [hc])
      subst e
      exact (H.cut_any a0 c w (by omega)).mono fun e w' ⟨h1, n, h2⟩ => ⟨h1, ⟨n, h2⟩⟩
    · cases h
  · cases h
end Go.Proofs.YthemlbefkdmegaaDoor.P
namespace Go.Proofs.YthemlbefkdmegaaDoor.H
open Go.RowKit Go.Shelf Go Go.Lib
/-- A decoder in block b. -/
def DecAt (B b : Nat) (st left : Int) (line : ByteArray) (many : Int) (body : ByteArray) (w : World) : Prop :=
  B ≤ b ∧ ∃ v, w.heap[b]? = some (.cells #[.int .i64 st, .int .i64 left, .string line, .int .i64 many, v] 55 (0, 0)) ∧ w.ownsRow B 5 1 v body.size (strCells body) ∧ v.ownBlock ≠ some b
theorem DecAt.below {B b : Nat} {st left : Int} {line : ByteArray} {many : Int} {body : ByteArray} {w w' : World} (h : DecAt B b st left line many body w) (hb : Below w.heap.size w w') : DecAt B b st left line many body w' := by
  obtain ⟨hB, v, hk, hown, hne⟩ := h
  have hlt : b < w.heap.size := by
    rcases Nat.lt_or_ge b w.heap.size with h' | h'
    · exact h'
    · simp [Array.getElem?_eq_none h'] at hk
  refine ⟨hB, v, (hb.block b hlt).trans hk, ?_, hne⟩
  refine hown.kept (row := none) ⟨hb.os, hb.tape, hb.output, hb.size, fun k hk _ => hb.block k hk⟩ ?_
  cases e : v.ownBlock with
  | none => exact .inl rfl
  | some g => exact .inr (by simp)
theorem DecAt.lt {B b : Nat} {st left : Int} {line : ByteArray} {many : Int} {body : ByteArray} {w : World} (h : DecAt B b st left line many body w) : b < w.heap.size := by
  obtain ⟨hB, v, hk, hown, hne⟩ := h
  rcases Nat.lt_or_ge b w.heap.size with h' | h'
  · exact h'
  · simp [Array.getElem?_eq_none h'] at hk
theorem DecAt.kept {B b : Nat} {st left st' left' : Int} {line line' : ByteArray} {many many' : Int} {body : ByteArray} {v x : Value} {i : Nat} {w : World} (hB : B ≤ b) (hk : w.heap[b]? = some (.cells #[.int .i64 st, .int .i64 left, .string line, .int .i64 many, v] 55 (0, 0)))
    (hown : w.ownsRow B 5 1 v body.size (strCells body)) (hne : v.ownBlock ≠ some b)
    (he : (#[.int .i64 st, .int .i64 left, .string line, .int .i64 many, v] : Array Value).setIfInBounds i x = #[.int .i64 st', .int .i64 left', .string line', .int .i64 many', v]) :
    DecAt B b st' left' line' many' body (w.setCell ⟨b, i, none⟩ x) := by
  refine ⟨hB, v, ?_, ?_, hne⟩
  · rw [← he]
    simp [World.setCell, Array.getElem?_modify, hk]
  · exact hown.kept (row := some b) ⟨rfl, rfl, rfl, by simp [World.setCell], fun k _ hk => Below.heap_setCell _ _ _ _ (fun e => hk (by simp [e]))⟩ (Or.inr hne)
theorem DecAt.set0 {B b : Nat} {st left : Int} {line : ByteArray} {many : Int} {body : ByteArray} {w : World} (h : DecAt B b st left line many body w) (x : Int) : DecAt B b x left line many body (w.setCell ⟨b, 0, none⟩ (.int .i64 x)) := by
  obtain ⟨hB, v, hk, hown, hne⟩ := h
  exact DecAt.kept hB hk hown hne rfl
theorem DecAt.set1 {B b : Nat} {st left : Int} {line : ByteArray} {many : Int} {body : ByteArray} {w : World} (h : DecAt B b st left line many body w) (x : Int) : DecAt B b st x line many body (w.setCell ⟨b, 1, none⟩ (.int .i64 x)) := by
  obtain ⟨hB, v, hk, hown, hne⟩ := h
  exact DecAt.kept hB hk hown hne rfl
theorem DecAt.set2 {B b : Nat} {st left : Int} {line : ByteArray} {many : Int} {body : ByteArray} {w : World} (h : DecAt B b st left line many body w) (x : ByteArray) : DecAt B b st left x many body (w.setCell ⟨b, 2, none⟩ (.string x)) := by
  obtain ⟨hB, v, hk, hown, hne⟩ := h
  exact DecAt.kept hB hk hown hne rfl
theorem DecAt.set3 {B b : Nat} {st left : Int} {line : ByteArray} {many : Int} {body : ByteArray} {w : World} (h : DecAt B b st left line many body w) (x : Int) : DecAt B b st left line x body (w.setCell ⟨b, 3, none⟩ (.int .i64 x)) := by
  obtain ⟨hB, v, hk, hown, hne⟩ := h
  exact DecAt.kept hB hk hown hne rfl
theorem DecAt.cells {B b : Nat} {st left : Int} {line : ByteArray} {many : Int} {body : ByteArray} {w : World} (h : DecAt B b st left line many body w) :
    w.cell? ⟨b, 0, none⟩ = some (.int .i64 st) ∧ w.cell? ⟨b, 1, none⟩ = some (.int .i64 left) ∧ w.cell? ⟨b, 2, none⟩ = some (.string line) ∧ w.cell? ⟨b, 3, none⟩ = some (.int .i64 many) ∧ ∀ i, w.frozen? ⟨b, i, none⟩ = false := by
  obtain ⟨hB, v, hk, hown, hne⟩ := h
  exact ⟨by rw [cell_of_heap hk]; rfl, by rw [cell_of_heap hk]; rfl, by rw [cell_of_heap hk]; rfl, by rw [cell_of_heap hk]; rfl, fun i => frozen_of_heap hk i⟩
end Go.Proofs.YthemlbefkdmegaaDoor.H
