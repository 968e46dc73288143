/- Lists of bytes at the first byte of a kind; texts by their bytes. -/
import Derived.Test.YthemlbefkdmegaaDoorHB
import Derived.Deep.QuietTactic
import Derived.BigQuiet
import Derived.OwnWalk
namespace Go.Proofs.YthemlbefkdmegaaDoor.H
open Go.RowKit Go.Shelf Go.Lib

theorem index_split (l : List UInt8) (c : UInt8) :
    (indexByte l c = -1 ∧ c ∉ l) ∨ ∃ k : Nat, indexByte l c = (k : Int) ∧ k < l.length ∧ l.take k = l.takeWhile (· != c) ∧ l.drop (k + 1) = (l.dropWhile (· != c)).drop 1 ∧ c ∈ l := by
  induction l with
  | nil => exact .inl ⟨rfl, by simp⟩
  | cons b l ih =>
    by_cases e : b = c
    · subst e
      exact .inr ⟨0, by unfold indexByte; simp, by simp, by simp [List.takeWhile], by simp [List.dropWhile], by simp⟩
    · have e1 : (b == c) = false := by simpa using e
      have e2 : (b != c) = true := by simpa using e
      rcases ih with ⟨h1, h2⟩ | ⟨k, h1, h2, h3, h4, h5⟩
      · refine .inl ⟨?_, ?_⟩
        · unfold indexByte; rw [h1]; simp [e1]
        · rw [List.mem_cons, not_or]; exact ⟨fun h => e h.symm, h2⟩
      · refine .inr ⟨k + 1, ?_, by rw [List.length_cons]; omega, ?_, ?_, by simp [h5]⟩
        · unfold indexByte
          rw [if_neg (by simp [e1]), h1, if_neg (by simp)]
          simp
        · rw [List.take_succ_cons, h3, List.takeWhile_cons, e2]; rfl
        · rw [List.drop_succ_cons, h4, List.dropWhile_cons, e2]; rfl

theorem ba_ext {a b : ByteArray} (h : a.data.toList = b.data.toList) : a = b := by
  cases a; cases b; congr 1; exact Array.toList_inj.mp h
end Go.Proofs.YthemlbefkdmegaaDoor.H
