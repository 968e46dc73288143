/- The contract of strings.Cut at a separator of one byte. -/
import Derived.Test.YthemlbefkdmegaaDoorHD
import Derived.Deep.QuietTactic
import Derived.BigQuiet
import Derived.OwnWalk
namespace Go.Proofs.YthemlbefkdmegaaDoor.H
open Go.RowKit Go.Shelf Go.Lib

theorem cutlib_any (s : ByteArray) (c : UInt8) (w : World) (hs : s.size ≤ 9223372036854775806) :
    Calls Tryd.prog 62 #[.string s, .string ⟨#[c]⟩] w fun e w' => e = .returned (.tuple #[.string ⟨(Sp.cutL c s.data.toList).toArray⟩, .string ⟨(Sp.cutR c s.data.toList).toArray⟩, .bool (Sp.cutIs c s.data.toList)]) ∧ ∃ n, w' = w.drewN n := by
  have hI := Tryd.stringslite_Index_one s c w
  have hl : s.data.toList.length = s.size := by simp
  rcases index_split s.data.toList c with ⟨h1, h2⟩ | ⟨k, h1, h2, h3, h4, h5⟩
  · rw [h1] at hI
    have e1 : Sp.cutL c s.data.toList = s.data.toList := by unfold Sp.cutL; rw [if_neg h2]
    have e2 : Sp.cutR c s.data.toList = [] := by unfold Sp.cutR; rw [if_neg h2]
    have e3 : Sp.cutIs c s.data.toList = false := by unfold Sp.cutIs; simpa using h2
    rw [e1, e2, e3]
    clear e1 e2 e3 h1 h2 hl
    have K := Lib.hid hI
    clear hI
    go_enter Tryd.func62, Tryd.ntmps62
    go_wp2_with fail
    refine K.out.mono ?_; rintro e w' ⟨rfl, rfl⟩
    go_wp2_with fail
    go_ret3
    exact ⟨by simp, 0, rfl⟩
  · rw [h1] at hI
    rw [hl] at h2
    have e1 : (⟨(Sp.cutL c s.data.toList).toArray⟩ : ByteArray) = s.extract 0 k := by
      apply ba_ext
      rw [Lib.extract_data]
      unfold Sp.cutL; rw [if_pos h5, ← h3]
      simp
    have e2 : (⟨(Sp.cutR c s.data.toList).toArray⟩ : ByteArray) = s.extract (k + 1) s.size := by
      apply ba_ext
      rw [Lib.extract_to_end]
      unfold Sp.cutR; rw [if_pos h5, h4]
    have e3 : Sp.cutIs c s.data.toList = true := by unfold Sp.cutIs; simpa using h5
    rw [e1, e2, e3]
    clear e1 e2 e3 h1 h3 h4 h5 hl
    have K := Lib.hid hI
    clear hI
    have b1 : (0 : Int) ≤ (k : Int) := by omega
    have b2 : (k : Int) ≤ (s.size : Int) := by omega
    have b3 : (k : Int) + 1 ≤ (s.size : Int) := by omega
    have b4 : (0 : Int) ≤ (k : Int) + 1 := by omega
    go_enter Tryd.func62, Tryd.ntmps62
    go_wp2_with fail
    refine K.out.mono ?_; rintro e w' ⟨rfl, rfl⟩
    go_wp2_with fail
    go_quiet (fail)
    go_wp2_with fail
    go_ret3
    exact ⟨rfl, _, rfl⟩

theorem cut_any (s : ByteArray) (c : UInt8) (w : World) (hs : s.size ≤ 9223372036854775806) :
    Calls Tryd.prog 53 #[.string s, .string ⟨#[c]⟩] w fun e w' => e = .returned (.tuple #[.string ⟨(Sp.cutL c s.data.toList).toArray⟩, .string ⟨(Sp.cutR c s.data.toList).toArray⟩, .bool (Sp.cutIs c s.data.toList)]) ∧ ∃ n, w' = w.drewN n := by
  have K := Lib.hid (cutlib_any s c w hs)
  generalize (⟨(Sp.cutL c s.data.toList).toArray⟩ : ByteArray) = x at K ⊢
  generalize (⟨(Sp.cutR c s.data.toList).toArray⟩ : ByteArray) = y at K ⊢
  generalize Sp.cutIs c s.data.toList = z at K ⊢
  go_enter Tryd.func53, Tryd.ntmps53
  go_wp2_with fail
  refine K.out.mono ?_; rintro e w' ⟨rfl, n, rfl⟩
  go_wp2_with fail
  go_ret3
  exact ⟨rfl, _, rfl⟩
end Go.Proofs.YthemlbefkdmegaaDoor.H
