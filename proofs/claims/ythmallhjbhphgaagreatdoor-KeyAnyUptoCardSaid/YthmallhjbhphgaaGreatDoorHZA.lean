/- Several parts together: The plain functions of the hand contracts on header fields (names, values, trimming, small letters, items): lists of bytes alone, no program; Contracts of the functions of package field that take function values: what is told of names and values; The contract of field.Lower: a text in small letters; Lists of bytes at the first byte of a kind; texts by their bytes; The contract of strings.Cut at a separator of one byte; The contract of field.Drop: fields whose names match none of some; A law for a loop over an iterator that keeps state in cells of its own and a body that always goes on: over any program; The contract of the iterator of strings.SplitSeq at a separator of one byte; The contract of the iterator of field.Items' pieces. -/
import Derived.Lib.SlTrimSet
import Derived.Test.YthmallhjbhphgaaGreatDoorShelf
import Derived.WalkKit
import Derived.KernelRfl
import Derived.LoopTactic
import Derived.Lib.Hide
import Derived.Outline
import Derived.Shelf.Strings.SlTrimAscii
import Derived.Lib.ConvBytes
import Derived.Laws.IdiomStrings
import Derived.OwnWalk
import Derived.Below
import Derived.Deep.QuietTactic
import Derived.BigQuiet
import Derived.Test.YthmallhjbhphgaaGreatDoorWWords
import Derived.Deep.RegionHeld3
import Derived.Deep.RegionWith
import Derived.RangeFuncNested
import Derived.RangeFuncLeaves
import Derived.RangeFuncBound
import Derived.RangeFuncCalls
import Derived.Shelf.Abstract
import Derived.Shelf.RegionOpen
import Derived.OwnWalkIn
import Derived.TacticsInMore
import Derived.LoopNIn
import Derived.LoopIn
import Derived.Maps.AppendAt
set_option linter.unusedVariables false
set_option linter.unusedSimpArgs false
namespace Go.Proofs.YthmallhjbhphgaaGreatDoor.Sp
def trim (l : List UInt8) : List UInt8 := Lib.trimS l [32, 9]
def lowC (c : UInt8) : UInt8 := if 65 ≤ c && c ≤ 90 then c + 32 else c
def lower (l : List UInt8) : List UInt8 := l.map lowC
def parts (c : UInt8) : List UInt8 → List (List UInt8)
 | [] => [[]]
 | b :: l => if b == c then [] :: parts c l else
  match parts c l with
  | [] => [[b]]
  | p :: r => (b :: p) :: r
def cutL (c : UInt8) (l : List UInt8) : List UInt8 := if c ∈ l then l.takeWhile (· != c) else l
def cutR (c : UInt8) (l : List UInt8) : List UInt8 := if c ∈ l then (l.dropWhile (· != c)).drop 1 else []
def cutIs (c : UInt8) (l : List UInt8) : Bool := l.contains c
def items (l : List UInt8) : List (List UInt8) := ((parts 44 l).map fun p => lower (trim p)).filter fun p => !p.isEmpty
end Go.Proofs.YthmallhjbhphgaaGreatDoor.Sp
namespace Go.Proofs.YthmallhjbhphgaaGreatDoor.H
open Go.RowKit Go.Shelf Go.Lib

def inB (a b c : Int) : Bool := decide (b ≤ a) && decide (a ≤ c)
theorem in_any (a b c : Int) (w : World) : Calls Tryz.prog 55 #[.int .u8 a, .int .u8 b, .int .u8 c] w fun e w' => e = .returned (.bool (inB a b c)) ∧ w = w' := by
 unfold inB
 by_cases h : b ≤ a
 ·have hb : decide (b ≤ a) = true := decide_eq_true h
  go_enter Tryz.func55, Tryz.ntmps55
  go_wp2
  all_goals
   go_ret
   exact ⟨by simp [h], rfl⟩
 ·have hb : decide (b ≤ a) = false := decide_eq_false h
  go_enter Tryz.func55, Tryz.ntmps55
  go_wp2
  all_goals
   go_ret
   exact ⟨by simp [h], rfl⟩

theorem inB_u8 (c a b : UInt8) : inB (c.toNat : Int) (a.toNat : Int) (b.toNat : Int) = (a ≤ c && c ≤ b) := by
 unfold inB
 rw [Bool.eq_iff_iff]; simp [UInt8.le_iff_toNat_le]

theorem trim_any (s : ByteArray) (w : World) (hs : s.size ≤ 9223372036854775807) :
  Calls Tryz.prog 84 #[.string s] w fun e w' => e = .returned (.string ⟨(Sp.trim s.data.toList).toArray⟩) ∧ Below w.heap.size w w' := by
 have hcon := Any.strings_Trim_laid Tryz.lays160 (by kernel_rfl) s ⟨#[32, 9]⟩ w hs (by decide) (ascii_of_all (by decide))
 change Calls Tryz.prog 104 _ _ (fun e w' => e = .returned (.string ⟨(Sp.trim s.data.toList).toArray⟩) ∧ Below w.heap.size w w') at hcon
 generalize (⟨(Sp.trim s.data.toList).toArray⟩ : ByteArray) = r at hcon ⊢
 go_enter Tryz.func84, Tryz.ntmps84
 go_wp2_with (go_at_call 104; refine hcon.mono ?_; rintro e w' ⟨rfl, hB⟩)
 go_ret
 exact ⟨rfl, hB⟩

end Go.Proofs.YthmallhjbhphgaaGreatDoor.H
namespace Go.Proofs.YthmallhjbhphgaaGreatDoor.H
open Go.RowKit Go.Shelf Go.Lib

theorem bw_below (w : World) (e : TypeId) (s : ByteArray) : Below w.heap.size w (bytesWorld w e s) :=
 ⟨rfl, rfl, rfl, by rw [bytesWorld_size]; omega, fun k hk => bytesWorld_at_old w e s k hk⟩
theorem bw_size (w : World) (e : TypeId) (s : ByteArray) : s.size ≤ (bytesCells w e s).size := by
 simp [bytesCells]
theorem bw_frozen (w : World) (e : TypeId) (s : ByteArray) (j : Nat) (hj : j < s.size) : (bytesWorld w e s).frozen? ⟨w.heap.size, j, none⟩ = false := by
 have := bw_size w e s
 simp [World.frozen?, bytesWorld_at_new]; omega
def mix (s : ByteArray) (k j : Nat) : UInt8 := if j < k then Sp.lowC (s.data.toList.getD j 0) else s.data.toList.getD j 0
theorem mix_0 (s : ByteArray) (j : Nat) : mix s 0 j = s.data.toList.getD j 0 := by simp [mix]
theorem mix_at (s : ByteArray) (k : Nat) : mix s k k = s.data.toList.getD k 0 := by simp [mix]
theorem mix_succ_ne (s : ByteArray) (k j : Nat) (h : j ≠ k) : mix s (k + 1) j = mix s k j := by
 unfold mix
 by_cases h1 : j < k
 ·rw [if_pos h1, if_pos (by omega)]
 ·rw [if_neg h1, if_neg (by omega)]
theorem mix_succ_at (s : ByteArray) (k : Nat) : mix s (k + 1) k = Sp.lowC (s.data.toList.getD k 0) := by simp [mix]
theorem lowC_yes (c : UInt8) (h : inB (c.toNat : Int) 65 90 = true) : ((Sp.lowC c).toNat : Int) = (c.toNat : Int) - 65 + 97 := by
 have h1 : inB (c.toNat : Int) 65 90 = (65 ≤ c && c ≤ 90) := inB_u8 c 65 90
 rw [h1] at h
 unfold Sp.lowC
 rw [if_pos h]
 simp [UInt8.le_iff_toNat_le] at h
 rw [UInt8.toNat_add]
 simp; omega
theorem lowC_no (c : UInt8) (h : inB (c.toNat : Int) 65 90 = false) : Sp.lowC c = c := by
 have h1 : inB (c.toNat : Int) 65 90 = (65 ≤ c && c ≤ 90) := inB_u8 c 65 90
 rw [h1] at h
 unfold Sp.lowC
 rw [if_neg (by simpa using h)]
theorem inB_lo {a b c : Int} (h : inB a b c = true) : b ≤ a ∧ a ≤ c := by
 unfold inB at h; simpa using h
def LowRow (s : ByteArray) (B : Nat) (w : World) (k : Nat) (wr : World) : Prop :=
 (∀ j, j < s.size → wr.cell? ⟨B, j, none⟩ = some (.int .u8 ((mix s k j).toNat : Int))) ∧ (∀ j, j < s.size → wr.frozen? ⟨B, j, none⟩ = false) ∧ Below B w wr ∧ B < wr.heap.size
theorem LowRow.keep {s : ByteArray} {B : Nat} {w : World} {k : Nat} {wr : World} (h : LowRow s B w k wr) (hk : Sp.lowC (s.data.toList.getD k 0) = s.data.toList.getD k 0) : LowRow s B w (k + 1) wr := by
 refine ⟨fun j hj => ?_, h.2.1, h.2.2.1, h.2.2.2⟩
 rw [h.1 j hj]
 by_cases e : j = k
 ·subst e; rw [mix_succ_at, mix_at, hk]
 ·rw [mix_succ_ne _ _ _ e]
theorem LowRow.put {s : ByteArray} {B : Nat} {w : World} {k : Nat} {wr : World} (h : LowRow s B w k wr) (hk : k < s.size) (v : Int) (hv : ((Sp.lowC (s.data.toList.getD k 0)).toNat : Int) = v) : LowRow s B w (k + 1) (wr.setCell ⟨B, k, none⟩ (.int .u8 v)) := by
 refine ⟨fun j hj => ?_, fun j hj => ?_, h.2.2.1.setCell (Nat.le_refl _) _, ?_⟩
 ·by_cases e : j = k
  ·subst e
   rw [mix_succ_at, hv]
   exact World.cell?_setCell_same' _ _ _ (by rw [h.1 j hj]; rfl)
  ·rw [mix_succ_ne _ _ _ e, ← h.1 j hj]
   exact World.cell?_setCell_other _ _ _ _ (by intro e'; injection e' with _ e2; exact e e2.symm)
 ·rw [World.frozen?_setCell]; exact h.2.1 j hj
 ·simpa [World.setCell] using h.2.2.2
theorem addr_plain (g j : Nat) : (⟨g, 0, none⟩ : Addr).add j = ⟨g, j, none⟩ := by unfold Addr.add; split <;> simp_all
theorem lower_get (s : ByteArray) (j : Nat) (hj : j < s.size) : (Sp.lower s.data.toList)[j]? = some (mix s s.size j) := by
 unfold Sp.lower mix
 rw [if_pos hj, List.getElem?_map, List.getElem?_eq_getElem (by simpa using hj), List.getD_eq_getElem?_getD, List.getElem?_eq_getElem (by simpa using hj)]
 rfl
theorem lower_len (s : ByteArray) : (Sp.lower s.data.toList).length = s.size := by unfold Sp.lower; simp

set_option maxHeartbeats 800000 in
theorem lower_any (s : ByteArray) (w : World) (hs : s.size ≤ 9223372036854775807) :
  Calls Tryz.prog 40 #[.string s] w fun e w' => e = .returned (.string ⟨(Sp.lower s.data.toList).toArray⟩) ∧ Below w.heap.size w w' := by
 have hcv := Lib.run_convert_string_bytes (P := Tryz.prog) w 9 31 5 s Tryz.underlying9 Tryz.underlying31 Tryz.underlying5
 obtain ⟨W, hW⟩ : ∃ W, W = bytesWorld w 5 s := ⟨_, rfl⟩
 obtain ⟨cap, hcap⟩ : ∃ c, c = grownCap w s.size 0 5 := ⟨_, rfl⟩
 rw [← hW, ← hcap] at hcv
 have hrow : LowRow s w.heap.size w 0 W := by
  subst hW
  refine ⟨fun j hj => by rw [mix_0]; exact bytesWorld_cell _ _ _ j hj, fun j hj => bw_frozen _ _ _ j hj, bw_below _ _ _, by rw [bytesWorld_size]; omega⟩
 clear hW hcap
 have HR := Lib.hid hrow
 clear hrow
 obtain ⟨B, hB⟩ : ∃ B, B = w.heap.size := ⟨_, rfl⟩
 rw [← hB] at hcv HR ⊢
 have HB := Lib.hid hB
 clear hB
 go_enter Tryz.func40, Tryz.ntmps40
 go_wp2_with fail
 clear hcv
 go_loopw [4, 5, 10] (fun _ _ i wr => ∃ k : Nat, k ≤ s.size ∧ i = .int .i64 k ∧ Hid (LowRow s B w k wr)) (fun _ _ i _ => s.size - (RowKit.intOf i).toNat)
 case atStart => exact ⟨0, Nat.zero_le _, rfl, HR⟩
 case round =>
  obtain ⟨k, hk, rfl, hp⟩ := hrel
  by_cases hlt : k < s.size
  ·have hcell := hp.out.1 k hlt
   have hfr := hp.out.2.1 k hlt
   rw [mix_at] at hcell
   obtain ⟨c, hc⟩ : ∃ c, c = s.data.toList.getD k 0 := ⟨_, rfl⟩
   rw [← hc] at hcell
   have HC := Lib.hid hc
   clear hc
   have b0 : (c.toNat : Int) ≤ 255 := by have := c.toNat_lt; omega
   cases hb : inB (c.toNat : Int) 65 90 with
   | false =>
    have HI := Lib.hid hb
    clear hb
    have kc : ∀ w, Calls Tryz.prog 55 #[.int .u8 (c.toNat : Int), .int .u8 65, .int .u8 90] w fun e w' => e = .returned (.bool false) ∧ w = w' := fun w => (in_any _ _ _ w).mono fun e w' h => by rw [← HI.out]; exact h
    have KC := Lib.hid kc
    clear kc
    go_wp2_with fail
    refine (KC.out _).mono ?_; rintro e w' ⟨rfl, rfl⟩
    go_wp2_with fail
    go_roundw
    case rel => exact ⟨k + 1, by omega, by go_num, Lib.hid (hp.out.keep (by rw [← HC.out]; exact lowC_no c HI.out))⟩
    case measure => simp [RowKit.intOf]; omega
   | true =>
    have HI := Lib.hid hb
    clear hb
    have kc : ∀ w, Calls Tryz.prog 55 #[.int .u8 (c.toNat : Int), .int .u8 65, .int .u8 90] w fun e w' => e = .returned (.bool true) ∧ w = w' := fun w => (in_any _ _ _ w).mono fun e w' h => by rw [← HI.out]; exact h
    have KC := Lib.hid kc
    clear kc
    obtain ⟨b1, b2⟩ := inB_lo HI.out
    go_wp2_with fail
    refine (KC.out _).mono ?_; rintro e w' ⟨rfl, rfl⟩
    go_wp2_with fail
    go_roundw
    case rel => exact ⟨k + 1, by omega, by go_num, Lib.hid (hp.out.put hlt _ (by rw [← HC.out]; exact lowC_yes c HI.out))⟩
    case measure => simp [RowKit.intOf]; omega
  ·have hk' : k = s.size := by omega
   have HK := Lib.hid hk'
   clear hk'
   have hback := run_convert_bytes_back (P := Tryz.prog) wr 31 9 5 ⟨B, 0, none⟩ cap (Sp.lower s.data.toList) Tryz.underlying31 Tryz.underlying5 Tryz.underlying9 (fun j hj => by
    have hj' : j < s.size := by rw [lower_len] at hj; exact hj
    have h1 := hp.out.1 j hj'
    have h2 := lower_get s j hj'
    rw [HK.out] at h1
    rw [List.getElem?_eq_getElem hj] at h2
    injection h2 with h2
    rw [h2]
    rw [addr_plain]; exact h1)
   rw [lower_len] at hback
   have hfin := hp.out.2.2.1
   go_wp2_with fail
   go_ret
   exact ⟨rfl, HB.out ▸ hfin⟩
end Go.Proofs.YthmallhjbhphgaaGreatDoor.H
namespace Go.Proofs.YthmallhjbhphgaaGreatDoor.H
open Go.RowKit Go.Shelf Go.Lib

theorem index_split (l : List UInt8) (c : UInt8) :
  (indexByte l c = -1 ∧ c ∉ l) ∨ ∃ k : Nat, indexByte l c = (k : Int) ∧ k < l.length ∧ l.take k = l.takeWhile (· != c) ∧ l.drop (k + 1) = (l.dropWhile (· != c)).drop 1 ∧ c ∈ l := by
 induction l with
 | nil => exact .inl ⟨rfl, by simp⟩
 | cons b l ih =>
  by_cases e : b = c
  ·subst e
   exact .inr ⟨0, by unfold indexByte; simp, by simp, by simp [List.takeWhile], by simp [List.dropWhile], by simp⟩
  ·have e1 : (b == c) = false := by simpa using e
   have e2 : (b != c) = true := by simpa using e
   rcases ih with ⟨h1, h2⟩ | ⟨k, h1, h2, h3, h4, h5⟩
   ·refine .inl ⟨?_, ?_⟩
    ·unfold indexByte; rw [h1]; simp [e1]
    ·rw [List.mem_cons, not_or]; exact ⟨fun h => e h.symm, h2⟩
   ·refine .inr ⟨k + 1, ?_, by rw [List.length_cons]; omega, ?_, ?_, by simp [h5]⟩
    ·unfold indexByte
     rw [if_neg (by simp [e1]), h1, if_neg (by simp)]
     simp
    ·rw [List.take_succ_cons, h3, List.takeWhile_cons, e2]; rfl
    ·rw [List.drop_succ_cons, h4, List.dropWhile_cons, e2]; rfl

theorem ba_ext {a b : ByteArray} (h : a.data.toList = b.data.toList) : a = b := by
 cases a; cases b; congr 1; exact Array.toList_inj.mp h
end Go.Proofs.YthmallhjbhphgaaGreatDoor.H
namespace Go.Proofs.YthmallhjbhphgaaGreatDoor.H
open Go.RowKit Go.Shelf Go.Lib

theorem cutlib_any (s : ByteArray) (c : UInt8) (w : World) (hs : s.size ≤ 9223372036854775806) :
  Calls Tryz.prog 97 #[.string s, .string ⟨#[c]⟩] w fun e w' => e = .returned (.tuple #[.string ⟨(Sp.cutL c s.data.toList).toArray⟩, .string ⟨(Sp.cutR c s.data.toList).toArray⟩, .bool (Sp.cutIs c s.data.toList)]) ∧ ∃ n, w' = w.drewN n := by
 have hI := Tryz.stringslite_Index_one s c w
 have hl : s.data.toList.length = s.size := by simp
 rcases index_split s.data.toList c with ⟨h1, h2⟩ | ⟨k, h1, h2, h3, h4, h5⟩
 ·rw [h1] at hI
  have e1 : Sp.cutL c s.data.toList = s.data.toList := by unfold Sp.cutL; rw [if_neg h2]
  have e2 : Sp.cutR c s.data.toList = [] := by unfold Sp.cutR; rw [if_neg h2]
  have e3 : Sp.cutIs c s.data.toList = false := by unfold Sp.cutIs; simpa using h2
  rw [e1, e2, e3]
  clear e1 e2 e3 h1 h2 hl
  have K := Lib.hid hI
  clear hI
  go_enter Tryz.func97, Tryz.ntmps97
  go_wp2_with fail
  refine K.out.mono ?_; rintro e w' ⟨rfl, rfl⟩
  go_wp2_with fail
  go_ret3
  exact ⟨by simp, 0, rfl⟩
 ·rw [h1] at hI
  rw [hl] at h2
  have e1 : (⟨(Sp.cutL c s.data.toList).toArray⟩ : ByteArray) = s.extract 0 k := by
   apply ba_ext
   rw [Lib.extract_data]
   unfold Sp.cutL; rw [if_pos h5, ← h3]
   simp
  have e2 : (⟨(Sp.cutR c s.data.toList).toArray⟩ : ByteArray) = s.extract (k + 1) s.size := by
   apply ba_ext
   rw [Lib.extract_to_end]
   unfold Sp.cutR; rw [if_pos h5, h4]
  have e3 : Sp.cutIs c s.data.toList = true := by unfold Sp.cutIs; simpa using h5
  rw [e1, e2, e3]
  clear e1 e2 e3 h1 h3 h4 h5 hl
  have K := Lib.hid hI
  clear hI
  have b1 : (0 : Int) ≤ (k : Int) := by omega
  have b2 : (k : Int) ≤ (s.size : Int) := by omega
  have b3 : (k : Int) + 1 ≤ (s.size : Int) := by omega
  have b4 : (0 : Int) ≤ (k : Int) + 1 := by omega
  go_enter Tryz.func97, Tryz.ntmps97
  go_wp2_with fail
  refine K.out.mono ?_; rintro e w' ⟨rfl, rfl⟩
  go_wp2_with fail
  go_quiet (fail)
  go_wp2_with fail
  go_ret3
  exact ⟨rfl, _, rfl⟩

theorem cut_any (s : ByteArray) (c : UInt8) (w : World) (hs : s.size ≤ 9223372036854775806) :
  Calls Tryz.prog 73 #[.string s, .string ⟨#[c]⟩] w fun e w' => e = .returned (.tuple #[.string ⟨(Sp.cutL c s.data.toList).toArray⟩, .string ⟨(Sp.cutR c s.data.toList).toArray⟩, .bool (Sp.cutIs c s.data.toList)]) ∧ ∃ n, w' = w.drewN n := by
 have K := Lib.hid (cutlib_any s c w hs)
 generalize (⟨(Sp.cutL c s.data.toList).toArray⟩ : ByteArray) = x at K ⊢
 generalize (⟨(Sp.cutR c s.data.toList).toArray⟩ : ByteArray) = y at K ⊢
 generalize Sp.cutIs c s.data.toList = z at K ⊢
 go_enter Tryz.func73, Tryz.ntmps73
 go_wp2_with fail
 refine K.out.mono ?_; rintro e w' ⟨rfl, n, rfl⟩
 go_wp2_with fail
 go_ret3
 exact ⟨rfl, _, rfl⟩
end Go.Proofs.YthmallhjbhphgaaGreatDoor.H
namespace Go.Proofs.YthmallhjbhphgaaGreatDoor.H
open Go.RowKit Go.Shelf Go.Lib Go.Proofs.YthmallhjbhphgaaGreatDoorW.PrintWords

def Small (l : List ByteArray) : Prop := ∀ x ∈ l, x.size ≤ 9223372036854775807
theorem Small.at {l : List ByteArray} (h : Small l) (k : Nat) : (l.getD k ByteArray.empty).size ≤ 9223372036854775807 := by
 rw [List.getD_eq_getElem?_getD]
 cases e : l[k]? with
 | none => simp
 | some x => exact h x (List.mem_of_getElem? e)

end Go.Proofs.YthmallhjbhphgaaGreatDoor.H
namespace Go.Proofs.YthmallhjbhphgaaGreatDoor.H
open Go.RowKit Go

def Ab (R : Nat → Prop) (J : Nat → World → Prop) : Prop := ∀ k A B row, J k A → A.grownBy B row → (∀ r, row = some r → R r) → J k B

def rfPost (D L : Nat) (S : Nat → Prop) (I : World → Prop) (W : World) : Exit → Act → World → Prop
 | .normal, _, W' => W.heap.size ≤ W'.heap.size ∧ W'.heap[D]? = W.heap[D]? ∧ W'.heap[L]? = W.heap[L]? ∧ (∀ b, S b → W'.heap[b]? = W.heap[b]?) ∧ I W'
 | _, _, _ => False

theorem rf_all {P : Program} {n : Nat} {g : Operand} {ps : Array Tmp} {assign body : Code} {Q : Exit → Act → World → Prop} {a : Act} {w : World}
  {gf : Nat} {lb : Array Value} (hg : a.eval g = .func (.func gf) #[] lb) (eg : ∀ args w, (callFunc gf args).run P w = .ok (.enter gf args) w)
  (p : Tmp) (hps : ps = #[p]) (xs : List Value) (B0 : Nat) (R S : Nat → Prop) (hS : ∀ b, S b → b ≠ w.heap.size + 1) (hR : ∀ r, R r → r ≠ w.heap.size ∧ r ≠ w.heap.size + 1)
  (hit : ∀ (J : Nat → World → Prop) (W : World), W.heap.size = w.heap.size + 2 → Below w.heap.size w W → Ab R J →
   (∀ k x W1, J k W1 → B0 ≤ W1.heap.size → xs[k]? = some x → YieldAt Fence.wide (n - 1 - 1) P (w.heap.size + 1) #[x] W1 fun e W' => e = .returned (.bool true) ∧ J (k + 1) W' ∧ W1.heap.size ≤ W'.heap.size ∧ ∀ b, S b → W'.heap[b]? = W1.heap[b]?) →
   J 0 W → CallsIn Fence.wide (n - 1) P gf (#[.func (.yield (w.heap.size + 1)) #[] #[]] ++ lb) W fun e W' => (∃ v, e = .returned v) ∧ J xs.length W')
  (I : Nat → World → Prop) (hI : ∀ k A B row, I k A → A.grownBy B row → (∀ r, row = some r → R r ∨ r = w.heap.size + 1) → I k B) (h0 : I 0 w) (a₁ : Value → Act)
  (hassign : ∀ (l : Nat) (x : Value) (W : World) (K : Act → World → Prop), K (a₁ x) W →
   assign.wpIn (Fence.wide.inRound l) (n - 1 - 1) P (Exit.then K (fun _ _ _ => False)) { tmps := a.tmps.setIfInBounds p x, defers := [] } W)
  (hbody : ∀ (l k : Nat) (x : Value) (W : World), I k W → xs[k]? = some x → w.heap.size + 1 < W.heap.size → B0 ≤ W.heap.size →
   body.wpIn (Fence.wide.inRound l) (n - 1 - 1) P (rfPost w.heap.size (w.heap.size + 1) S (I (k + 1)) W) (a₁ x) W)
  (hdone : ∀ (W : World), I xs.length W → W.heap[w.heap.size]? = some (.deferred (some [])) → Q .normal { a with defers := { target := .collected w.heap.size, args := #[] } :: a.defers } W) :
  (Code.rangeFunc g ps assign body).wpIn Fence.wide n P Q a w := by
 refine wpIn_rangeFunc ?_
 intro fn hfn
 have hro : Fence.wide.round = none := rfl
 rw [hro]
 obtain ⟨rec, hrec⟩ : ∃ rec : LoopState → Option Code → Loop, rec = fun st pe => { state := st, pending := pe, fn, tmps := a.tmps, params := ps, assign, body, defers := w.heap.size } := ⟨_, rfl⟩
 obtain ⟨W1, hW1⟩ : ∃ W1, W1 = (w.alloc (.deferred (some []))).alloc (.loop (rec .ready none)) := ⟨_, rfl⟩
 have hsz : W1.heap.size = w.heap.size + 2 := by rw [hW1]; simp
 have hL1 : W1.heap[w.heap.size + 1]? = some (.loop (rec .ready none)) := by
  rw [hW1]; have := World.alloc_heap_new (w.alloc (.deferred (some []))) (.loop (rec .ready none)); rwa [World.size_alloc] at this
 have hK1 : W1.heap[w.heap.size]? = some (.deferred (some [])) := by
  rw [hW1]; exact (Below.heap_alloc _ _ _ (by simp)).trans (World.alloc_heap_new w _)
 have hI1 : I 0 W1 := by
  rw [hW1]
  exact hI 0 _ _ none (hI 0 _ _ none h0 (World.grownBy_alloc _ _ none) (fun r e => by cases e)) (World.grownBy_alloc _ _ none) (fun r e => by cases e)
 have hb1 : Below w.heap.size w W1 := by
  rw [hW1]; exact ((Below.refl _ w).alloc (Nat.le_refl _) _).alloc (by simp) _
 refine ⟨w.heap.size + 1, [{ target := .collected w.heap.size, args := #[] }], W1, { target := .fn (.func gf) lb, args := #[.func (.yield (w.heap.size + 1)) #[] #[]] }, W1, gf,
  #[.func (.yield (w.heap.size + 1)) #[] #[]] ++ lb, W1, ?_, ?_, ?_, ?_, fun h => by simp [Fence.wide] at h, ?_⟩
 ·rw [hW1, hrec]; exact run_enterLoop_outer _ _ _ _ _
 ·simp only [resolve, hg]
  simp [go_sem]
 ·intro f' hf'; trivial
 ·simp [invoke, go_sem, eg]
 ·refine (hit (fun k W => I k W ∧ W.heap[w.heap.size + 1]? = some (.loop (rec .ready none)) ∧ W.heap[w.heap.size]? = some (.deferred (some []))) W1 hsz hb1 ?_ ?_ ⟨hI1, hL1, hK1⟩).mono ?_
  ·rintro k A B row ⟨hi, hl, hk⟩ hgr hrow
   have h1 : w.heap.size + 1 < A.heap.size := (Array.getElem?_eq_some_iff.1 hl).1
   refine ⟨hI k A B row hi hgr (fun r e => .inl (hrow r e)), (hgr.block _ h1 ?_).trans hl, (hgr.block _ (by omega) ?_).trans hk⟩
   ·intro e; exact (hR _ (hrow _ e.symm)).2 rfl
   ·intro e; exact (hR _ (hrow _ e.symm)).1 rfl
  ·rintro k x W ⟨hi, hl, hk⟩ hB0 hx
   have hlt : w.heap.size + 1 < W.heap.size := (Array.getElem?_eq_some_iff.1 hl).1
   have hy := run_yield (P := P) (args := #[x]) hl (by rw [hrec, hps]; rfl)
   have hz : (ps.zip #[x]).foldl (fun tmps (t, a) => tmps.setIfInBounds t a) a.tmps = a.tmps.setIfInBounds p x := by rw [hps]; simp
   rw [hrec] at hy
   refine ⟨fn, _, assign, body, hy, roundIn_of_wpIn hfn ?_⟩
   have hz' : (({ state := LoopState.ready, pending := none, fn := fn, tmps := a.tmps, params := ps, assign := assign, body := body, defers := w.heap.size } : Loop).params.zip #[x]).foldl (fun tmps (t, a) => tmps.setIfInBounds t a) a.tmps = a.tmps.setIfInBounds p x := hz
   rw [hz']
   refine hassign _ x W _ ⟨_, run_beginRound hl (by rw [hrec]), ?_⟩
   obtain ⟨W2, hW2⟩ : ∃ W2, W2 = W.putObj (w.heap.size + 1) (.loop { rec .ready none with state := .busy }) := ⟨_, rfl⟩
   rw [← hW2]
   have hl2 : W2.heap[w.heap.size + 1]? = some (.loop { rec .ready none with state := .busy }) := by rw [hW2]; exact World.putObj_heap_same hlt
   have hk2 : W2.heap[w.heap.size]? = some (.deferred (some [])) := by rw [hW2]; exact (World.putObj_heap_other (by omega)).trans hk
   have hg2 : W.grownBy W2 (some (w.heap.size + 1)) := by rw [hW2]; exact grownBy_putObj' _ _ _
   have hi2 : I k W2 := hI k _ _ _ hi hg2 (fun r e => by cases e; exact .inr rfl)
   refine wpIn_mono (hbody _ k x W2 hi2 hx (by rw [hW2]; simpa using hlt) (by rw [hW2]; simpa using hB0)) ?_
   rintro e a3 W3 hp
   cases e with
   | normal =>
    obtain ⟨hz3, hd, hl3, hs3, hi3⟩ := hp
    have hl4 := hl3.trans hl2
    have hr := run_endRound (P := P) none hl4
    refine ⟨_, _, hr, rfl, ⟨?_, ?_, ?_⟩, by simp only [World.putObj_size]; rw [hW2] at hz3; simpa using hz3, fun b hb => ?_⟩
    ·exact hI _ _ _ _ hi3 (grownBy_putObj' _ _ _) (fun r e => by cases e; exact .inr rfl)
    ·rw [World.putObj_heap_same (Array.getElem?_eq_some_iff.1 hl4).1, hrec]; rfl
    ·exact (World.putObj_heap_other (by omega)).trans (hd.trans hk2)
    ·rw [World.putObj_heap_other (hS b hb), hs3 b hb, hW2, World.putObj_heap_other (hS b hb)]
   | ret => exact hp.elim
   | exit id => exact hp.elim
   | goto t => exact hp.elim
   | panic ch => exact hp.elim
   | outgrown => exact hp.elim
  ·rintro e W2 ⟨⟨v, rfl⟩, hi, hl, hk⟩
   have hend := run_endLoop (P := P) hl (by rw [hrec]; simp)
   rw [hrec] at hend
   exact ⟨none, _, hend, hdone _ (hI _ _ _ _ hi (grownBy_putObj' _ _ _) (fun r e => by cases e; exact .inr rfl)) ((World.putObj_heap_other (by omega)).trans hk)⟩
end Go.Proofs.YthmallhjbhphgaaGreatDoor.H
namespace Go.Proofs.YthmallhjbhphgaaGreatDoor.H
open Go.RowKit Go.Shelf Go
attribute [local go_sem] Oper.semAt_some

theorem parts_none {c : UInt8} {l : List UInt8} (h : c ∉ l) : Sp.parts c l = [l] := by
 induction l with
 | nil => rfl
 | cons b l ih =>
  rw [List.mem_cons, not_or] at h
  have hb : (b == c) = false := by simpa using fun e : b = c => h.1 e.symm
  rw [Sp.parts, ih h.2, hb]; rfl
theorem parts_some {c : UInt8} {l : List UInt8} (h : c ∈ l) : Sp.parts c l = l.takeWhile (· != c) :: Sp.parts c ((l.dropWhile (· != c)).drop 1) := by
 induction l with
 | nil => cases h
 | cons b l ih =>
  by_cases e : b = c
  ·subst e
   rw [Sp.parts]; simp
  ·have hb : (b == c) = false := by simpa using e
   have hb2 : (b != c) = true := by simpa using e
   have hl : c ∈ l := by rcases List.mem_cons.mp h with h | h; exact absurd h.symm e; exact h
   rw [Sp.parts, ih hl, hb, List.takeWhile_cons, List.dropWhile_cons, hb2]; rfl
def cellLen (b : Nat) (w : World) : Nat := match w.cell? ⟨b, 0, none⟩ with | some (.string s) => s.size | _ => 0
def mkB (l : List UInt8) : ByteArray := ⟨l.toArray⟩
def vparts (c : UInt8) (l : List UInt8) : List Value := (Sp.parts c l).map fun p => .string (mkB p)
theorem grown_set (W : World) (b : Nat) (v : Value) : W.grownBy (W.setCell ⟨b, 0, none⟩ v) (some b) :=
 ⟨rfl, rfl, rfl, by simp [World.setCell], fun k _ hk => Below.heap_setCell W ⟨b, 0, none⟩ v k (fun e => hk (by rw [e]))⟩
theorem extract_mkL (s : ByteArray) (c : UInt8) (k : Nat) (h3 : s.data.toList.take k = s.data.toList.takeWhile (· != c)) : s.extract 0 k = mkB (s.data.toList.takeWhile (· != c)) := by
 apply ba_ext
 rw [Lib.extract_data, ← h3]
 simp [mkB]
theorem extract_R (s : ByteArray) (c : UInt8) (k : Nat) (h4 : s.data.toList.drop (k + 1) = (s.data.toList.dropWhile (· != c)).drop 1) : (s.extract (k + 1) s.size).data.toList = (s.data.toList.dropWhile (· != c)).drop 1 := by
 rw [Lib.extract_to_end, h4]
theorem mk_self (s : ByteArray) : mkB s.data.toList = s := by simp [mkB]

structure SplitAt (bp bs bv : Nat) (c : UInt8) (s0 rest : ByteArray) (J : Nat → World → Prop) (k : Nat) (wr : World) : Prop where
 p : wr.cell? ⟨bp, 0, none⟩ = some (.string ⟨#[c]⟩)
 s : wr.cell? ⟨bs, 0, none⟩ = some (.string rest)
 f : wr.frozen? ⟨bs, 0, none⟩ = false
 v : wr.cell? ⟨bv, 0, none⟩ = some (.int .i64 0)
 j : J k wr
 e : (Sp.parts c s0.data.toList).drop k = Sp.parts c rest.data.toList
 z : rest.size ≤ 9223372036854775806
theorem SplitAt.get {bp bs bv : Nat} {c : UInt8} {s0 rest : ByteArray} {J : Nat → World → Prop} {k : Nat} {wr : World} (h : SplitAt bp bs bv c s0 rest J k wr) {p : List UInt8} {r : List (List UInt8)} (hp : Sp.parts c rest.data.toList = p :: r) :
  (vparts c s0.data.toList)[k]? = some (.string (mkB p)) ∧ (Sp.parts c s0.data.toList).drop (k + 1) = r := by
 have e := h.e
 rw [hp] at e
 have hk : (Sp.parts c s0.data.toList)[k]? = some p := by
  have := congrArg (fun l => l[0]?) e
  simpa using this
 refine ⟨by unfold vparts; rw [List.getElem?_map, hk]; rfl, ?_⟩
 rw [← List.drop_drop, e]; rfl

set_option maxRecDepth 100000 in
set_option maxHeartbeats 4000000 in
theorem split_in (n l bp bs bv : Nat) (s0 : ByteArray) (c : UInt8) (J : Nat → World → Prop) (W : World) (hne : bp ≠ bs) (hnv : bv ≠ bs)
  (hp : W.cell? ⟨bp, 0, none⟩ = some (.string ⟨#[c]⟩)) (hs : W.cell? ⟨bs, 0, none⟩ = some (.string s0)) (hf : W.frozen? ⟨bs, 0, none⟩ = false) (hv : W.cell? ⟨bv, 0, none⟩ = some (.int .i64 0))
  (hsz : s0.size ≤ 9223372036854775806) (hJ : Ab (fun r => r = bs) J)
  (hY : ∀ k x W1, J k W1 → (vparts c s0.data.toList)[k]? = some x → YieldAt Fence.wide (n - 1) Tryz.prog l #[x] W1 fun e W' => e = .returned (.bool true) ∧ J (k + 1) W' ∧ ∀ b, (b = bp ∨ b = bs ∨ b = bv) → W'.heap[b]? = W1.heap[b]?)
  (h0 : J 0 W) :
  CallsIn Fence.wide n Tryz.prog 114 #[.func (.yield l) #[] #[], .pointer (some ⟨bp, 0, none⟩), .pointer (some ⟨bs, 0, none⟩), .pointer (some ⟨bv, 0, none⟩)] W fun e W' => (∃ v, e = .returned v) ∧ J (vparts c s0.data.toList).length W' := by
 have HS : Hid (SplitAt bp bs bv c s0 s0 J 0 W) := Lib.hid ⟨hp, hs, hf, hv, h0, rfl, hsz⟩
 have HJ := Lib.hid hJ
 have HY := Lib.hid hY
 clear hf hv h0 hJ hY hsz
 refine callsIn_of_wp Tryz.func114 rfl trivial ?_ rfl
 simp only [Tryz.ntmps114, List.size_toArray, List.length_cons, List.length_nil, Nat.reduceAdd, Nat.reduceSub, Array.replicate_succ, Array.replicate_zero, List.push_toArray, List.append_toArray, List.nil_append, List.cons_append]
 gi_wp2
 clear hp hs
 gi_loopw [7, 8] (fun _ _ wr => ∃ (k : Nat) (rest : ByteArray), Hid (SplitAt bp bs bv c s0 rest J k wr)) (fun _ _ wr => cellLen bs wr)
 case atStart => exact ⟨0, s0, HS⟩
 case round =>
  obtain ⟨k, rest, hA⟩ := hrel
  have hp := hA.out.p
  have hs := hA.out.s
  have hf := hA.out.f
  have hv := hA.out.v
  have hz := hA.out.z
  have hI := fun w => (callsIn_wide (n := n - 1)).2 (Tryz.strings_Index_one rest c w)
  have hl : rest.data.toList.length = rest.size := by simp
  rcases index_split rest.data.toList c with ⟨h1, h2⟩ | ⟨i, h1, h2, h3, h4, h5⟩
  ·rw [h1] at hI
   have HI := Lib.hid hI
   obtain ⟨g1, g2⟩ := hA.out.get (parts_none h2)
   rw [mk_self] at g1
   have HG2 := Lib.hid g2
   obtain ⟨fn, tmps, assign, body, hy, hR⟩ := HY.out k _ wr hA.out.j g1
   clear hI h1 h2 hl g1 g2
   gi_wp2_with fail
   refine ⟨trivial, (fun h => by simp [Fence.wide] at h), (HI.out _).mono ?_⟩; rintro e w' ⟨rfl, rfl⟩
   gi_wp2_with fail
   refine ⟨(fun h => by simp [Fence.wide] at h), hR.mono ?_⟩
   rintro e W3 ⟨rfl, hJ3, hk3⟩
   gi_wp2_with fail
   go_end0
   refine ⟨⟨_, rfl⟩, ?_⟩
   have hlen : (vparts c s0.data.toList).length = k + 1 := by
    unfold vparts
    rw [List.length_map]
    have h8 := congrArg List.length HG2.out
    have h9 := congrArg List.length hA.out.e
    simp at h8 h9
    have h10 : 0 < (Sp.parts c rest.data.toList).length := by
     cases hq : rest.data.toList with
     | nil => simp [Sp.parts]
     | cons b r =>
      rw [Sp.parts]
      split
      ·simp
      ·split <;> simp
    omega
   rw [hlen]; exact hJ3
  ·rw [h1] at hI
   rw [hl] at h2
   have HI := Lib.hid hI
   obtain ⟨g1, g2⟩ := hA.out.get (parts_some h5)
   rw [← extract_mkL rest c i h3] at g1
   rw [← extract_R rest c i h4] at g2
   have HG2 := Lib.hid g2
   obtain ⟨fn, tmps, assign, body, hy, hR⟩ := HY.out k _ wr hA.out.j g1
   have b1 : (0 : Int) ≤ (i : Int) := by omega
   have b2 : (i : Int) ≤ (rest.size : Int) := by omega
   have b3 : (i : Int) + 1 ≤ (rest.size : Int) := by omega
   have b4 : (0 : Int) ≤ (i : Int) + 1 := by omega
   have HL := Lib.hid hs
   clear hI h1 hl g1 g2 h3 h4 h5
   gi_wp2_with fail
   refine ⟨trivial, (fun h => by simp [Fence.wide] at h), (HI.out _).mono ?_⟩; rintro e w' ⟨rfl, rfl⟩
   gi_wp2_with fail
   refine ⟨(fun h => by simp [Fence.wide] at h), hR.mono ?_⟩
   rintro e W3 ⟨rfl, hJ3, hk3⟩
   have p3 : W3.cell? ⟨bp, 0, none⟩ = some (.string ⟨#[c]⟩) := (World.cell?_of_block (hk3 bp (.inl rfl))).trans hp
   have s3 : W3.cell? ⟨bs, 0, none⟩ = some (.string rest) := (World.cell?_of_block (hk3 bs (.inr (.inl rfl)))).trans hs
   have f3 : W3.frozen? ⟨bs, 0, none⟩ = false := (World.frozen?_of_block (hk3 bs (.inr (.inl rfl)))).trans hf
   have v3 : W3.cell? ⟨bv, 0, none⟩ = some (.int .i64 0) := (World.cell?_of_block (hk3 bv (.inr (.inr rfl)))).trans hv
   clear hk3
   gi_wp2_with fail
   go_roundw
   case rel => exact ⟨k + 1, rest.extract (i + 1) rest.size, Lib.hid ⟨
    (World.cell?_setCell_other _ _ _ _ (by intro e; injection e with e; exact hne e.symm)).trans p3,
    World.cell?_setCell_same' _ _ _ (by rw [s3]; rfl),
    by rw [World.frozen?_setCell]; exact f3,
    (World.cell?_setCell_other _ _ _ _ (by intro e; injection e with e; exact hnv e.symm)).trans v3,
    HJ.out _ _ _ _ hJ3 (grown_set _ _ _) (fun r e => by cases e; rfl),
    HG2.out, by simp; omega⟩⟩
   case measure =>
    unfold cellLen
    rw [World.cell?_setCell_same' _ _ _ (by rw [s3]; rfl), HL.out]
    simp; omega
end Go.Proofs.YthmallhjbhphgaaGreatDoor.H
namespace Go.Proofs.YthmallhjbhphgaaGreatDoor.H
open Go.RowKit Go.Shelf Go
attribute [local go_sem] Oper.semAt_some

theorem splitseq_any (s sep : ByteArray) (w : World) :
  Calls Tryz.prog 78 #[.string s, .string sep] w fun e w' => e = .returned (.func (.func 114) #[] #[.pointer (some ⟨w.heap.size + 1, 0, none⟩), .pointer (some ⟨w.heap.size, 0, none⟩), .pointer (some ⟨w.heap.size + 2, 0, none⟩)]) ∧
   w' = ((w.alloc (.cells #[.string s] 9)).alloc (.cells #[.string sep] 9)).alloc (.cells #[.int .i64 0] 3) := by
 go_enter Tryz.func78, Tryz.ntmps78
 go_wp2
 go_ret
 exact ⟨rfl, rfl⟩

theorem yield_any {P : Program} {m : Nat} (m' : Nat) {l : Nat} {args : Array Value} {W : World} {R : Ending → World → Prop} (h : YieldAt Fence.wide m P l args W R) : YieldAt Fence.wide m' P l args W R := by
 obtain ⟨fn, tmps, assign, body, hy, hR⟩ := h
 exact ⟨fn, tmps, assign, body, hy, hR.1, fun c cs _ => hR.2 c cs (fun _ h => by simp [Fence.wide, Fence.inRound] at h)⟩

def piece (p : List UInt8) : List UInt8 := Sp.lower (Sp.trim p)
def kept (p : List UInt8) : Bool := !(piece p).isEmpty
def cnt (l : List (List UInt8)) (k : Nat) : Nat := ((l.take k).filter kept).length
theorem items_eq (l : List UInt8) : Sp.items l = ((Sp.parts 44 l).filter kept).map piece := by
 unfold Sp.items
 rw [List.filter_map]
 rfl
theorem cnt_succ (l : List (List UInt8)) (k : Nat) (p : List UInt8) (h : l[k]? = some p) : cnt l (k + 1) = cnt l k + (if kept p then 1 else 0) := by
 unfold cnt
 obtain ⟨hk, hp⟩ := List.getElem?_eq_some_iff.mp h
 rw [List.take_succ_eq_append_getElem hk, List.filter_append, List.length_append, hp]
 cases hv : kept p <;> simp [List.filter_cons, hv]
theorem cnt_get (l : List (List UInt8)) (k : Nat) (p : List UInt8) (h : l[k]? = some p) (hp : kept p = true) : ((l.filter kept).map piece)[cnt l k]? = some (piece p) := by
 unfold cnt
 obtain ⟨hk, hq⟩ := List.getElem?_eq_some_iff.mp h
 have e : l = l.take k ++ p :: l.drop (k + 1) := by rw [← hq]; simp
 have e2 : l.filter kept = (l.take k).filter kept ++ (p :: (l.drop (k + 1)).filter kept) := by
  conv => lhs; rw [e]
  rw [List.filter_append, List.filter_cons, if_pos hp]
 rw [List.getElem?_map, e2, List.getElem?_append_right (Nat.le_refl _), Nat.sub_self]
 rfl
theorem cnt_all (l : List (List UInt8)) : cnt l l.length = ((l.filter kept).map piece).length := by
 unfold cnt
 rw [List.take_length, List.length_map]
def vitems (l : List UInt8) : List Value := (Sp.items l).map fun p => .string (mkB p)
theorem mkB_list (l : List UInt8) : (mkB l).data.toList = l := by simp [mkB]
theorem vget (s : ByteArray) (k : Nat) (x : Value) (h : (vparts 44 s.data.toList)[k]? = some x) : ∃ p, (Sp.parts 44 s.data.toList)[k]? = some p ∧ x = .string (mkB p) := by
 unfold vparts at h
 rw [List.getElem?_map] at h
 cases hp : (Sp.parts 44 s.data.toList)[k]? with
 | none => rw [hp] at h; cases h
 | some p => rw [hp] at h; injection h with h; exact ⟨p, rfl, h.symm⟩
theorem parts_len (c : UInt8) (l p : List UInt8) (h : p ∈ Sp.parts c l) : p.length ≤ l.length := by
 induction l generalizing p with
 | nil => simp [Sp.parts] at h; subst h; simp
 | cons b l ih =>
  rw [Sp.parts] at h
  split at h
  ·rcases List.mem_cons.mp h with h | h
   ·subst h; simp
   ·have := ih p h; simp; omega
  ·split at h
   ·rename_i e
    have : Sp.parts c l ≠ [] := by
     cases l with
     | nil => simp [Sp.parts]
     | cons b' l' => rw [Sp.parts]; split; simp; split <;> simp
    exact absurd e this
   ·rename_i q r e
    rcases List.mem_cons.mp h with h | h
    ·subst h
     have := ih q (by rw [e]; simp); simp; omega
    ·have := ih p (by rw [e]; simp [h]); simp; omega

theorem four_blocks (W : World) (o0 o1 o2 o3 : Obj) :
  ((((W.alloc o0).alloc o1).alloc o2).alloc o3).heap[W.heap.size]? = some o0 ∧ ((((W.alloc o0).alloc o1).alloc o2).alloc o3).heap[W.heap.size + 1]? = some o1 ∧
  ((((W.alloc o0).alloc o1).alloc o2).alloc o3).heap[W.heap.size + 2]? = some o2 ∧ ((((W.alloc o0).alloc o1).alloc o2).alloc o3).heap[W.heap.size + 3]? = some o3 := by
 have e : ((((W.alloc o0).alloc o1).alloc o2).alloc o3).heap = (((W.heap.push o0).push o1).push o2).push o3 := rfl
 rw [e]
 refine ⟨?_, ?_, ?_, ?_⟩ <;> simp only [Array.getElem?_push, Array.size_push] <;> repeat (first | rw [if_pos trivial] | rw [if_neg (by omega)] | rw [if_pos (by omega)])
theorem dropWhile_len (p : UInt8 → Bool) (l : List UInt8) : (l.dropWhile p).length ≤ l.length := by
 induction l with
 | nil => simp
 | cons b l ih => rw [List.dropWhile_cons]; split <;> simp; omega
theorem trim_len (l : List UInt8) : (Sp.trim l).length ≤ l.length := by
 unfold Sp.trim Lib.trimS Lib.trimLeftS Lib.trimRightS
 have h1 := dropWhile_len (([32, 9] : List UInt8).contains ·) (l.reverse.dropWhile (([32, 9] : List UInt8).contains ·)).reverse
 have h2 := dropWhile_len (([32, 9] : List UInt8).contains ·) l.reverse
 simp at h1 h2 ⊢
 omega
theorem grown_of_below {A B : World} (h : Below A.heap.size A B) : A.grownBy B none := ⟨h.os, h.tape, h.output, h.size, fun k hk _ => h.block k hk⟩
theorem cell_of_heap {W : World} {b : Nat} {v : Value} {t : TypeId} (h : W.heap[b]? = some (.cells #[v] t (0, 0))) : W.cell? ⟨b, 0, none⟩ = some v := by
 unfold World.cell?; rw [h]; rfl
theorem frozen_of_heap {W : World} {b : Nat} {v : Value} {t : TypeId} (h : W.heap[b]? = some (.cells #[v] t (0, 0))) : W.frozen? ⟨b, 0, none⟩ = false := by
 unfold World.frozen?; rw [h]; rfl

structure PieceAt (H : Nat) (l : Nat) (J : Nat → World → Prop) (j : Nat) (W : World) : Prop where
 j : J j W
 c : W.cell? ⟨H, 0, none⟩ = some (.func (.yield l) #[] #[])
 z : H + 5 < W.heap.size

set_option maxRecDepth 100000 in
set_option maxHeartbeats 4000000 in
theorem pieces_in (n m l b0 : Nat) (s : ByteArray) (J : Nat → World → Prop) (W : World) (hb0 : b0 < W.heap.size)
  (hs : W.cell? ⟨b0, 0, none⟩ = some (.string s)) (hsz : s.size ≤ 9223372036854775806)
  (hJ : Ab (fun r => W.heap.size ≤ r ∧ r < W.heap.size + 6) J)
  (hY : ∀ k x W1, J k W1 → W.heap.size + 6 ≤ W1.heap.size → (vitems s.data.toList)[k]? = some x → YieldAt Fence.wide m Tryz.prog l #[x] W1 fun e W' => e = .returned (.bool true) ∧ J (k + 1) W' ∧ W1.heap.size ≤ W'.heap.size ∧ ∀ b, W.heap.size ≤ b → b < W.heap.size + 6 → W'.heap[b]? = W1.heap[b]?)
  (h0 : J 0 W) :
  CallsIn Fence.wide n Tryz.prog 83 #[.func (.yield l) #[] #[], .pointer (some ⟨b0, 0, none⟩)] W fun e W' => (∃ v, e = .returned v) ∧ J (vitems s.data.toList).length W' := by
 have HJ := Lib.hid hJ
 have HY := Lib.hid hY
 clear hJ hY
 obtain ⟨H, hH⟩ : ∃ H, H = W.heap.size := ⟨_, rfl⟩
 rw [← hH] at HJ HY hb0
 have hs1 : (W.alloc (.cells #[.func (.yield l) #[] #[]] 59)).cell? ⟨b0, 0, none⟩ = some (.string s) := by
  rw [World.cell?_of_block (Below.heap_alloc W _ b0 (by omega))]; exact hs
 have hseq := fun w => (callsIn_wide (n := n - 1)).2 (splitseq_any s ⟨#[44]⟩ w)
 have HQ := Lib.hid hseq
 clear hseq
 refine callsIn_of_wp_marks Tryz.func83 rfl trivial ?_ rfl
 simp only [Tryz.ntmps83, List.size_toArray, List.length_cons, List.length_nil, Nat.reduceAdd, Nat.reduceSub, Array.replicate_succ, Array.replicate_zero, List.push_toArray, List.append_toArray, List.nil_append, List.cons_append]
 gi_wp2_with fail
 refine ⟨trivial, (fun h => by simp [Fence.wide] at h), (HQ.out _).mono ?_⟩; rintro e w' ⟨rfl, rfl⟩
 gi_wp2_with fail
 obtain ⟨W0, hW0⟩ : ∃ W0, W0 = (((W.alloc (.cells #[.func (.yield l) #[] #[]] 59)).alloc (.cells #[.string s] 9)).alloc (.cells #[.string ⟨#[44]⟩] 9)).alloc (.cells #[.int .i64 0] 3) := ⟨_, rfl⟩
 have hz0 : W0.heap.size = H + 4 := by rw [hW0, hH]; simp
 have hg0 : W.grownBy W0 none := by
  rw [hW0]
  have hB : Below W.heap.size W ((((W.alloc (.cells #[.func (.yield l) #[] #[]] 59)).alloc (.cells #[.string s] 9)).alloc (.cells #[.string ⟨#[44]⟩] 9)).alloc (.cells #[.int .i64 0] 3)) :=
   ((((Below.refl _ W).alloc (Nat.le_refl _) _).alloc (by simp) _).alloc (by simp; omega) _).alloc (by simp; omega) _
  exact ⟨hB.os, hB.tape, hB.output, hB.size, fun k hk _ => hB.block k hk⟩
 obtain ⟨g0, g1, g2, g3⟩ := four_blocks W (.cells #[.func (.yield l) #[] #[]] 59) (.cells #[.string s] 9) (.cells #[.string ⟨#[44]⟩] 9) (.cells #[.int .i64 0] 3)
 rw [← hW0, ← hH] at g0 g1 g2 g3
 have c0 := cell_of_heap g0
 have c1 := cell_of_heap g1
 have c2 := cell_of_heap g2
 have c3 := cell_of_heap g3
 have f1 := frozen_of_heap g1
 rw [← hW0]
 rw [← hH] at *
 have h00 : J 0 W0 := HJ.out 0 W W0 none h0 hg0 (fun r e => by cases e)
 clear hs hs1 h0 hg0 hW0 g0 g1 g2 g3
 refine rf_all (gf := 114) (lb := #[.pointer (some ⟨H + 2, 0, none⟩), .pointer (some ⟨H + 1, 0, none⟩), .pointer (some ⟨H + 3, 0, none⟩)]) rfl (enters_of Tryz.func114 (by kernel_rfl) rfl) 7 rfl
  (vparts 44 s.data.toList) 0 (fun r => r = H + 1) (fun b => b = H + 2 ∨ b = H + 1 ∨ b = H + 3) (fun b hb => by omega) (fun r hr => by omega)
  (fun J' W' hsz' hB' hA' hY' h0' => split_in (n - 1) _ (H + 2) (H + 1) (H + 3) s 44 J' W' (by omega) (by omega)
   ((hB'.cell (p := ⟨H + 2, 0, none⟩) (by show H + 2 < _; omega)).trans c2) ((hB'.cell (p := ⟨H + 1, 0, none⟩) (by show H + 1 < _; omega)).trans c1) ((hB'.frozen (p := ⟨H + 1, 0, none⟩) (by show H + 1 < _; omega)).trans f1) ((hB'.cell (p := ⟨H + 3, 0, none⟩) (by show H + 3 < _; omega)).trans c3) hsz hA' (fun k x W1 hj hx => YieldAt.mono (hY' k x W1 hj (Nat.zero_le _) hx) (fun e w' h => ⟨h.1, h.2.1, h.2.2.2⟩)) h0')
  (fun k W => J (cnt (Sp.parts 44 s.data.toList) k) W ∧ W.cell? ⟨H, 0, none⟩ = some (.func (.yield l) #[] #[])) ?_ ⟨by simpa [cnt] using h00, c0⟩
  (fun x => { tmps := #[.func (.yield l) #[] #[], .pointer (some ⟨b0, 0, none⟩), .pointer (some ⟨H, 0, none⟩), x, undef, .string s, .func (.func 114) #[] #[.pointer (some ⟨H + 2, 0, none⟩), .pointer (some ⟨H + 1, 0, none⟩), .pointer (some ⟨H + 3, 0, none⟩)], x, undef, undef, undef, undef, undef, undef, undef, undef, undef, undef, undef], defers := [] }) ?_ ?_ ?_
 ·rintro k A B row ⟨hj, hc⟩ hg hr
  refine ⟨HJ.out _ A B row hj hg (fun r e => by have := hr r e; omega), ?_⟩
  rw [World.cell?_of_block (hg.block H (World.block_lt_of_cell? A _ hc) (fun e => by have := hr H e.symm; omega))]
  exact hc
 ·intro l' x W' K hK
  gi_wp2
  exact hK
 ·rintro l' k x W' ⟨hj, hc⟩ hx hlt _
  obtain ⟨p, hp, rfl⟩ := vget s k x hx
  have hps : (mkB p).size ≤ 9223372036854775807 := by
   have h1 := parts_len 44 s.data.toList p (List.mem_of_getElem? hp)
   have h2 : s.data.toList.length = s.size := by simp
   have h3 : (mkB p).size = p.length := by simp [mkB, ByteArray.size]
   omega
  have hqs : (mkB (Sp.trim p)).size ≤ 9223372036854775807 := by
   have h1 := trim_len p
   have h3 : (mkB p).size = p.length := by simp [mkB, ByteArray.size]
   have h4 : (mkB (Sp.trim p)).size = (Sp.trim p).length := by simp [mkB, ByteArray.size]
   omega
  have kt := fun w => (callsIn_wide (n := n - 1 - 1 - 1)).2 (trim_any (mkB p) w hps)
  have kl := fun w => (callsIn_wide (n := n - 1 - 1 - 1)).2 (lower_any (mkB (Sp.trim p)) w hqs)
  simp only [mkB_list] at kt kl
  have hcs := cnt_succ (Sp.parts 44 s.data.toList) k p hp
  have hcg := cnt_get (Sp.parts 44 s.data.toList) k p hp
  change ∀ w, CallsIn _ _ _ _ _ w (fun e w' => e = .returned (.string (mkB (Sp.trim p))) ∧ _) at kt
  change ∀ w, CallsIn _ _ _ _ _ w (fun e w' => e = .returned (.string (mkB (piece p))) ∧ _) at kl
  have KT := Lib.hid kt
  have KL := Lib.hid kl
  have HCS := Lib.hid hcs
  have HCG := Lib.hid hcg
  clear kt kl hcs hcg hx hps hqs
  cases hk : kept p with
  | false =>
   have he : (mkB (piece p)).toList = [] := by
    rw [Lib.toList_data, mkB_list]
    unfold kept at hk
    simpa using hk
   have HK := Lib.hid hk
   clear hk
   gi_wp2_with fail
   refine ⟨trivial, (fun h => by simp [Fence.wide, Fence.inRound] at h), (KT.out _).mono ?_⟩; rintro e w1 ⟨rfl, hB1⟩
   gi_wp2_with fail
   refine ⟨trivial, (fun h => by simp [Fence.wide, Fence.inRound] at h), (KL.out _).mono ?_⟩; rintro e w2 ⟨rfl, hB2⟩
   have hB := hB1.trans (hB2.mono hB1.size)
   gi_wp2_with fail
   refine ⟨fun _ h => (by cases h), ?_⟩
   gi_wp2_with fail
   refine ⟨hB.size, hB.block _ (by omega), hB.block _ (by omega), fun b hb => hB.block _ (by omega), ?_, ?_⟩
   ·rw [HCS.out, HK.out]
    exact HJ.out _ _ _ none hj (grown_of_below hB) (fun r e => by cases e)
   ·exact (hB.cell (p := ⟨H, 0, none⟩) (World.block_lt_of_cell? W' _ hc)).trans hc
  | true =>
   have he : (mkB (piece p)).toList.isEmpty = false := by
    rw [Lib.toList_data, mkB_list]
    unfold kept at hk
    simpa using hk
   have hne : ¬ (mkB (piece p)).toList = [] := by
    intro h; rw [h] at he; cases he
   have HK := Lib.hid hk
   clear hk
   gi_wp2_with fail
   refine ⟨trivial, (fun h => by simp [Fence.wide, Fence.inRound] at h), (KT.out _).mono ?_⟩; rintro e w1 ⟨rfl, hB1⟩
   gi_wp2_with fail
   refine ⟨trivial, (fun h => by simp [Fence.wide, Fence.inRound] at h), (KL.out _).mono ?_⟩; rintro e w2 ⟨rfl, hB2⟩
   have hB := hB1.trans (hB2.mono hB1.size)
   have hc2 := (hB.cell (p := ⟨H, 0, none⟩) (World.block_lt_of_cell? W' _ hc)).trans hc
   have hj2 := HJ.out _ _ _ none hj (grown_of_below hB) (fun r e => by cases e)
   have hlt2 := hB.size
   obtain ⟨fn, tmps, assign, body, hy, hR⟩ := yield_any (n - 1 - 1 - 1) (HY.out _ (.string (mkB (piece p))) w2 hj2 (by omega) (by
    unfold vitems
    rw [items_eq, List.getElem?_map, HCG.out HK.out]; rfl))
   gi_wp2_with fail
   refine ⟨(fun h => by simp [Fence.wide] at h), (show RoundIn (Fence.wide.inRound l') (n - 1 - 1 - 1) Tryz.prog l fn tmps assign body w2 _ from hR).mono ?_⟩
   rintro e w3 ⟨rfl, hj3, hz3, hk3⟩
   gi_wp2_with fail
   have hH5 : H + 5 < W'.heap.size := by omega
   have q : ∀ b, H ≤ b → b < H + 6 → w3.heap[b]? = W'.heap[b]? := fun b h1 h2 => (hk3 b h1 h2).trans (hB.block b (by omega))
   refine ⟨Nat.le_trans hlt2 hz3, q _ (by omega) (by omega), q _ (by omega) (by omega), fun b hb => q b (by omega) (by omega), ?_, ?_⟩
   ·rw [HCS.out, HK.out]
    exact hj3
   ·rw [World.cell?_of_block (q H (Nat.le_refl _) (by omega))]; exact hc
 ·rintro W' ⟨hj, hc⟩ hd
  rw [hz0] at hd
  have hlen : (vparts 44 s.data.toList).length = (Sp.parts 44 s.data.toList).length := by unfold vparts; simp
  rw [hlen, cnt_all] at hj
  rw [List.length_map] at hj
  have hlen2 : (vitems s.data.toList).length = ((Sp.parts 44 s.data.toList).filter kept).length := by unfold vitems; rw [items_eq, List.length_map, List.length_map]
  gi_wp2
  refine ⟨by simp, .inl ⟨_, _, rfl, run_takeDeferred hd, ?_⟩⟩
  exact ⟨_, results_none rfl _ _ _, ⟨_, rfl⟩, HJ.out _ _ _ _ hj (grownBy_putObj' _ _ _) (fun r e => by cases e; omega)⟩
end Go.Proofs.YthmallhjbhphgaaGreatDoor.H
