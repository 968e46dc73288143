/- The contract of field.Lower: a text in small letters. -/
import Derived.Test.YthemlbefkdmegaaDoorHB
import Derived.Lib.ConvBytes
import Derived.Laws.IdiomStrings
import Derived.OwnWalk
import Derived.Below
namespace Go.Proofs.YthemlbefkdmegaaDoor.H
open Go.RowKit Go.Shelf Go.Lib

theorem bw_below (w : World) (e : TypeId) (s : ByteArray) : Below w.heap.size w (bytesWorld w e s) :=
  ⟨rfl, rfl, rfl, by rw [bytesWorld_size]; omega, fun k hk => bytesWorld_at_old w e s k hk⟩
theorem bw_size (w : World) (e : TypeId) (s : ByteArray) : s.size ≤ (bytesCells w e s).size := by
  simp [bytesCells]
theorem bw_frozen (w : World) (e : TypeId) (s : ByteArray) (j : Nat) (hj : j < s.size) : (bytesWorld w e s).frozen? ⟨w.heap.size, j, none⟩ = false := by
  have := bw_size w e s
  simp [World.frozen?, bytesWorld_at_new]; omega
/-- Byte j of a text, k bytes of which are in small letters. -/
def mix (s : ByteArray) (k j : Nat) : UInt8 := if j < k then Sp.lowC (s.data.toList.getD j 0) else s.data.toList.getD j 0
theorem mix_0 (s : ByteArray) (j : Nat) : mix s 0 j = s.data.toList.getD j 0 := by simp [mix]
theorem mix_at (s : ByteArray) (k : Nat) : mix s k k = s.data.toList.getD k 0 := by simp [mix]
theorem mix_succ_ne (s : ByteArray) (k j : Nat) (h : j ≠ k) : mix s (k + 1) j = mix s k j := by
  unfold mix
  by_cases h1 : j < k
  · rw [if_pos h1, if_pos (by omega)]
  · rw [if_neg h1, if_neg (by omega)]
theorem mix_succ_at (s : ByteArray) (k : Nat) : mix s (k + 1) k = Sp.lowC (s.data.toList.getD k 0) := by simp [mix]
theorem lowC_yes (c : UInt8) (h : inB (c.toNat : Int) 65 90 = true) : ((Sp.lowC c).toNat : Int) = (c.toNat : Int) - 65 + 97 := by
  have h1 : inB (c.toNat : Int) 65 90 = (65 ≤ c && c ≤ 90) := inB_u8 c 65 90
  rw [h1] at h
  unfold Sp.lowC
  rw [if_pos h]
  simp [UInt8.le_iff_toNat_le] at h
  rw [UInt8.toNat_add]
  simp; omega
theorem lowC_no (c : UInt8) (h : inB (c.toNat : Int) 65 90 = false) : Sp.lowC c = c := by
  have h1 : inB (c.toNat : Int) 65 90 = (65 ≤ c && c ≤ 90) := inB_u8 c 65 90
  rw [h1] at h
  unfold Sp.lowC
  rw [if_neg (by simpa using h)]
theorem inB_lo {a b c : Int} (h : inB a b c = true) : b ≤ a ∧ a ≤ c := by
  unfold inB at h; simpa using h
/-- What holds of the world while small letters are put. -/
def LowRow (s : ByteArray) (B : Nat) (w : World) (k : Nat) (wr : World) : Prop :=
  (∀ j, j < s.size → wr.cell? ⟨B, j, none⟩ = some (.int .u8 ((mix s k j).toNat : Int))) ∧ (∀ j, j < s.size → wr.frozen? ⟨B, j, none⟩ = false) ∧ Below B w wr ∧ B < wr.heap.size
theorem LowRow.keep {s : ByteArray} {B : Nat} {w : World} {k : Nat} {wr : World} (h : LowRow s B w k wr) (hk : Sp.lowC (s.data.toList.getD k 0) = s.data.toList.getD k 0) : LowRow s B w (k + 1) wr := by
  refine ⟨fun j hj => ?_, h.2.1, h.2.2.1, h.2.2.2⟩
  rw [h.1 j hj]
  by_cases e : j = k
  · subst e; rw [mix_succ_at, mix_at, hk]
  · rw [mix_succ_ne _ _ _ e]
theorem LowRow.put {s : ByteArray} {B : Nat} {w : World} {k : Nat} {wr : World} (h : LowRow s B w k wr) (hk : k < s.size) (v : Int) (hv : ((Sp.lowC (s.data.toList.getD k 0)).toNat : Int) = v) : LowRow s B w (k + 1) (wr.setCell ⟨B, k, none⟩ (.int .u8 v)) := by
  refine ⟨fun j hj => ?_, fun j hj => ?_, h.2.2.1.setCell (Nat.le_refl _) _, ?_⟩
  · by_cases e : j = k
    · subst e
      rw [mix_succ_at, hv]
      exact World.cell?_setCell_same' _ _ _ (by rw [h.1 j hj]; rfl)
    · rw [mix_succ_ne _ _ _ e, ← h.1 j hj]
      exact World.cell?_setCell_other _ _ _ _ (by intro e'; injection e' with _ e2; exact e e2.symm)
  · rw [World.frozen?_setCell]; exact h.2.1 j hj
  · simpa [World.setCell] using h.2.2.2
theorem addr_plain (g j : Nat) : (⟨g, 0, none⟩ : Addr).add j = ⟨g, j, none⟩ := by unfold Addr.add; split <;> simp_all
theorem lower_get (s : ByteArray) (j : Nat) (hj : j < s.size) : (Sp.lower s.data.toList)[j]? = some (mix s s.size j) := by
  unfold Sp.lower mix
  rw [if_pos hj, List.getElem?_map, List.getElem?_eq_getElem (by simpa using hj), List.getD_eq_getElem?_getD, List.getElem?_eq_getElem (by simpa using hj)]
  rfl
theorem lower_len (s : ByteArray) : (Sp.lower s.data.toList).length = s.size := by unfold Sp.lower; simp

end Go.Proofs.YthemlbefkdmegaaDoor.H
