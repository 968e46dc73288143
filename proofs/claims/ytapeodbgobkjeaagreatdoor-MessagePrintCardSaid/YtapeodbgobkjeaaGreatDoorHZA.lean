/- Several parts together: The plain functions of the hand contracts on header fields (names, values, trimming, small letters, items): lists of bytes alone, no program; Contracts of the functions of package field that take function values: what is told of names and values; The contract of field.Lower: a text in small letters; Lists of bytes at the first byte of a kind; texts by their bytes; The contract of strings.Cut at a separator of one byte; The contract of field.Drop: fields whose names match none of some; A law for a loop over an iterator that keeps state in cells of its own and a body that always goes on: over any program; The contract of the iterator of strings.SplitSeq at a separator of one byte; The contract of the iterator of field.Items' pieces. -/
import Derived.Lib.SlTrimSet
import Derived.Test.YtapeodbgobkjeaaGreatDoorShelf
import Derived.WalkKit
import Derived.KernelRfl
import Derived.LoopTactic
import Derived.Lib.Hide
import Derived.Outline
import Derived.Shelf.Strings.SlTrimAscii
import Derived.Lib.ConvBytes
import Derived.Laws.IdiomStrings
import Derived.OwnWalk
import Derived.Below
import Derived.Deep.QuietTactic
import Derived.BigQuiet
import Derived.Test.YtapeodbgobkjeaaGreatDoorWWords
import Derived.Deep.RegionHeld3
import Derived.Deep.RegionWith
import Derived.RangeFuncNested
import Derived.RangeFuncLeaves
import Derived.RangeFuncBound
import Derived.RangeFuncCalls
import Derived.Shelf.Abstract
import Derived.Shelf.RegionOpen
import Derived.OwnWalkIn
import Derived.TacticsInMore
import Derived.LoopNIn
import Derived.LoopIn
import Derived.Maps.AppendAt
set_option linter.unusedVariables false
set_option linter.unusedSimpArgs false
namespace Go.Proofs.YtapeodbgobkjeaaGreatDoor.Sp
def nameC (c : UInt8) : Bool := (48 ≤ c && c ≤ 57) || ((97 ≤ c && c ≤ 122) || ((65 ≤ c && c ≤ 90) || ([33, 35, 36, 37, 38, 39, 42, 43, 45, 46, 94, 95, 96, 124, 126] : List UInt8).contains c))
def allB (p : UInt8 → Bool) (l : List UInt8) : Bool := l.all p
def nameB (l : List UInt8) : Bool := !l.isEmpty && (decide (l.length ≤ 40) && allB nameC l)
def valC (c : UInt8) : Bool := c == 9 || (32 ≤ c && c ≤ 126)
def trim (l : List UInt8) : List UInt8 := Lib.trimS l [32, 9]
def valB (l : List UInt8) : Bool := decide (l.length ≤ 200) && (trim l == l && allB valC l)
def lowC (c : UInt8) : UInt8 := if 65 ≤ c && c ≤ 90 then c + 32 else c
def lower (l : List UInt8) : List UInt8 := l.map lowC
def parts (c : UInt8) : List UInt8 → List (List UInt8)
 | [] => [[]]
 | b :: l => if b == c then [] :: parts c l else
  match parts c l with
  | [] => [[b]]
  | p :: r => (b :: p) :: r
def cutL (c : UInt8) (l : List UInt8) : List UInt8 := if c ∈ l then l.takeWhile (· != c) else l
def cutR (c : UInt8) (l : List UInt8) : List UInt8 := if c ∈ l then (l.dropWhile (· != c)).drop 1 else []
def cutIs (c : UInt8) (l : List UInt8) : Bool := l.contains c
def items (l : List UInt8) : List (List UInt8) := ((parts 44 l).map fun p => lower (trim p)).filter fun p => !p.isEmpty
end Go.Proofs.YtapeodbgobkjeaaGreatDoor.Sp
namespace Go.Proofs.YtapeodbgobkjeaaGreatDoor.H
open Go.RowKit Go.Shelf Go.Lib

theorem ret_bool {a b : Bool} (h : a = b) : Ending.returned (.bool a) = .returned (.bool b) := by rw [h]
theorem ret_int {k : IntKind} {a b : Int} (h : a = b) : Ending.returned (.int k a) = .returned (.int k b) := by rw [h]
def inB (a b c : Int) : Bool := decide (b ≤ a) && decide (a ≤ c)
theorem in_any (a b c : Int) (w : World) : Calls Tryz.prog 81 #[.int .u8 a, .int .u8 b, .int .u8 c] w fun e w' => e = .returned (.bool (inB a b c)) ∧ w = w' := by
 unfold inB
 by_cases h : b ≤ a
 ·have hb : decide (b ≤ a) = true := decide_eq_true h
  go_enter Tryz.func81, Tryz.ntmps81
  go_wp2
  all_goals
   go_ret
   exact ⟨by simp [h], rfl⟩
 ·have hb : decide (b ≤ a) = false := decide_eq_false h
  go_enter Tryz.func81, Tryz.ntmps81
  go_wp2
  all_goals
   go_ret
   exact ⟨by simp [h], rfl⟩

theorem inB_u8 (c a b : UInt8) : inB (c.toNat : Int) (a.toNat : Int) (b.toNat : Int) = (a ≤ c && c ≤ b) := by
 unfold inB
 rw [Bool.eq_iff_iff]; simp [UInt8.le_iff_toNat_le]

def signs : List UInt8 := [33, 35, 36, 37, 38, 39, 42, 43, 45, 46, 94, 95, 96, 124, 126]
theorem index_contains (l : List UInt8) (c : UInt8) : decide (0 ≤ indexByte l c) = l.contains c := by
 induction l with
 | nil => rfl
 | cons b l ih =>
  have hg := indexByte_ge l c
  unfold indexByte
  rw [List.contains_cons]
  by_cases e : b = c
  ·subst e; simp
  ·have e1 : (b == c) = false := by simpa using e
   have e2 : (c == b) = false := by simpa using fun h : c = b => e h.symm
   rw [if_neg (by simp [e1]), e2, Bool.false_or, ← ih]
   by_cases h : indexByte l c = -1
   ·simp [h]
   ·rw [if_neg (by simpa using h)]
    rw [Bool.eq_iff_iff]; simp; omega
def ixB (c : UInt8) : Int := indexByte signs c
theorem indexByte_signs (c : UInt8) (w : World) : Calls Tryz.prog 91 #[.string ⟨#[33, 35, 36, 37, 38, 39, 42, 43, 45, 46, 94, 95, 96, 124, 126]⟩, .int .u8 (c.toNat : Int)] w fun e w' => e = .returned (.int .i64 (ixB c)) ∧ w = w' := by
 refine (Tryz.strings_IndexByte ⟨#[33, 35, 36, 37, 38, 39, 42, 43, 45, 46, 94, 95, 96, 124, 126]⟩ (c.toNat : Int) w).mono ?_
 rintro e w' ⟨rfl, rfl⟩
 refine ⟨?_, rfl⟩
 unfold ixB signs
 simp

theorem name1_any (c : UInt8) (w : World) : Calls Tryz.prog 90 #[.int .u8 (c.toNat : Int)] w fun e w' => e = .returned (.bool (Sp.nameC c)) ∧ w = w' := by
 have e : Sp.nameC c = (inB (c.toNat : Int) 48 57 || (inB (c.toNat : Int) 97 122 || (inB (c.toNat : Int) 65 90 || decide (0 ≤ ixB c)))) := by
  have h1 : inB (c.toNat : Int) 48 57 = (48 ≤ c && c ≤ 57) := inB_u8 c 48 57
  have h2 : inB (c.toNat : Int) 97 122 = (97 ≤ c && c ≤ 122) := inB_u8 c 97 122
  have h3 : inB (c.toNat : Int) 65 90 = (65 ≤ c && c ≤ 90) := inB_u8 c 65 90
  unfold Sp.nameC
  rw [h1, h2, h3]
  unfold ixB signs
  rw [index_contains]
 rw [e]
 clear e
 generalize hb1 : inB (c.toNat : Int) 48 57 = b1
 generalize hb2 : inB (c.toNat : Int) 97 122 = b2
 generalize hb3 : inB (c.toNat : Int) 65 90 = b3
 have H1 := Lib.hid hb1
 have H2 := Lib.hid hb2
 have H3 := Lib.hid hb3
 clear hb1 hb2 hb3
 have k1 : ∀ w, Calls Tryz.prog 81 #[.int .u8 (c.toNat : Int), .int .u8 48, .int .u8 57] w fun e w' => e = .returned (.bool b1) ∧ w = w' := fun w => (in_any _ _ _ w).mono fun e w' h => by rw [← H1.out]; exact h
 have k2 : ∀ w, Calls Tryz.prog 81 #[.int .u8 (c.toNat : Int), .int .u8 97, .int .u8 122] w fun e w' => e = .returned (.bool b2) ∧ w = w' := fun w => (in_any _ _ _ w).mono fun e w' h => by rw [← H2.out]; exact h
 have k3 : ∀ w, Calls Tryz.prog 81 #[.int .u8 (c.toNat : Int), .int .u8 65, .int .u8 90] w fun e w' => e = .returned (.bool b3) ∧ w = w' := fun w => (in_any _ _ _ w).mono fun e w' h => by rw [← H3.out]; exact h
 have K1 := Lib.hid k1
 have K2 := Lib.hid k2
 have K3 := Lib.hid k3
 clear k1 k2 k3
 cases b1
 ·cases b2
  ·cases b3
   ·go_enter Tryz.func90, Tryz.ntmps90
    go_wp2_with fail
    refine (K1.out _).mono ?_; rintro e w' ⟨rfl, rfl⟩
    go_wp2_with fail
    refine (K2.out _).mono ?_; rintro e w' ⟨rfl, rfl⟩
    go_wp2_with fail
    refine (K3.out _).mono ?_; rintro e w' ⟨rfl, rfl⟩
    go_wp2_with fail
    refine (indexByte_signs c _).mono ?_; rintro e w' ⟨rfl, rfl⟩
    go_wp2_with fail
    go_ret
    exact ⟨by simp, rfl⟩
   ·go_enter Tryz.func90, Tryz.ntmps90
    go_wp2_with fail
    refine (K1.out _).mono ?_; rintro e w' ⟨rfl, rfl⟩
    go_wp2_with fail
    refine (K2.out _).mono ?_; rintro e w' ⟨rfl, rfl⟩
    go_wp2_with fail
    refine (K3.out _).mono ?_; rintro e w' ⟨rfl, rfl⟩
    go_wp2_with fail
    go_ret
    exact ⟨by simp, rfl⟩
  ·go_enter Tryz.func90, Tryz.ntmps90
   go_wp2_with fail
   refine (K1.out _).mono ?_; rintro e w' ⟨rfl, rfl⟩
   go_wp2_with fail
   refine (K2.out _).mono ?_; rintro e w' ⟨rfl, rfl⟩
   go_wp2_with fail
   go_ret
   exact ⟨by simp, rfl⟩
 ·go_enter Tryz.func90, Tryz.ntmps90
  go_wp2_with fail
  refine (K1.out _).mono ?_; rintro e w' ⟨rfl, rfl⟩
  go_wp2_with fail
  go_ret
  exact ⟨by simp, rfl⟩
theorem value1_any (c : UInt8) (w : World) : Calls Tryz.prog 93 #[.int .u8 (c.toNat : Int)] w fun e w' => e = .returned (.bool (Sp.valC c)) ∧ w = w' := by
 have e : Sp.valC c = (decide ((c.toNat : Int) = 9) || inB (c.toNat : Int) 32 126) := by
  have h1 : inB (c.toNat : Int) 32 126 = (32 ≤ c && c ≤ 126) := inB_u8 c 32 126
  unfold Sp.valC
  rw [h1]
  congr 1
  rw [Bool.eq_iff_iff]; simp [← UInt8.toNat_inj]; omega
 rw [e]
 clear e
 generalize hb1 : inB (c.toNat : Int) 32 126 = b1
 have H1 := Lib.hid hb1
 clear hb1
 have k1 : ∀ w, Calls Tryz.prog 81 #[.int .u8 (c.toNat : Int), .int .u8 32, .int .u8 126] w fun e w' => e = .returned (.bool b1) ∧ w = w' := fun w => (in_any _ _ _ w).mono fun e w' h => by rw [← H1.out]; exact h
 have K1 := Lib.hid k1
 clear k1
 by_cases h : (c.toNat : Int) = 9
 ·have h' : ((c.toNat : Int) == 9) = true := by simpa using h
  have H := Lib.hid h
  clear h
  go_enter Tryz.func93, Tryz.ntmps93
  go_wp2_with fail
  go_ret
  exact ⟨by rw [H.out]; simp, rfl⟩
 ·have h' : ((c.toNat : Int) == 9) = false := by simpa using h
  have H := Lib.hid h
  clear h
  go_enter Tryz.func93, Tryz.ntmps93
  go_wp2_with fail
  refine (K1.out _).mono ?_; rintro e w' ⟨rfl, rfl⟩
  go_wp2_with fail
  go_ret
  exact ⟨by simp [H.out], rfl⟩

theorem take_all_succ (s : ByteArray) (p : UInt8 → Bool) (k : Nat) (h : k < s.size) : (s.data.toList.take (k + 1)).all p = ((s.data.toList.take k).all p && p s[k]) := by
 rw [List.take_succ_eq_append_getElem (by simpa using h)]
 rw [List.all_append]; simp; rfl
theorem all_false_of (s : ByteArray) (p : UInt8 → Bool) (k : Nat) (h : k < s.size) (hp : p s[k] = false) : s.data.toList.all p = false := by
 rw [List.all_eq_false]
 exact ⟨s[k], by rw [ByteArray.getElem_eq_getElem_data]; exact Array.mem_toList_iff.mpr (Array.getElem_mem _), by simp [hp]⟩

theorem all_name (s : ByteArray) (w : World) (hs : s.size ≤ 9223372036854775807) :
  Calls Tryz.prog 89 #[.string s, .func (.func 90) #[] #[]] w fun e w' => e = .returned (.bool (Sp.allB Sp.nameC s.data.toList)) ∧ w = w' := by
 go_enter Tryz.func89, Tryz.ntmps89
 go_wp2
 go_loop [5, 8] (fun _ i => ∃ k : Nat, k ≤ s.size ∧ i = .int .i64 k ∧ Hid ((s.data.toList.take k).all Sp.nameC = true)) (fun _ i => s.size - (RowKit.intOf i).toNat)
 case atStart => exact ⟨0, Nat.zero_le _, rfl, Lib.hid rfl⟩
 case round =>
  obtain ⟨k, hk, rfl, hp⟩ := hrel
  by_cases hlt : k < s.size
  ·cases hc : Sp.nameC s[k] with
   | true =>
    have HC := Lib.hid hc
    clear hc
    have kc : ∀ w, Calls Tryz.prog 90 #[.int .u8 (s[k].toNat : Int)] w fun e w' => e = .returned (.bool true) ∧ w = w' := fun w => (name1_any _ w).mono fun e w' h => by rw [← HC.out]; exact h
    have KC := Lib.hid kc
    clear kc
    go_wp2_with fail
    refine (KC.out _).mono ?_; rintro e w' ⟨rfl, rfl⟩
    go_wp2_with fail
    go_round
    case rel => exact ⟨k + 1, by omega, by go_num, Lib.hid (by rw [take_all_succ _ _ _ hlt, hp.out, HC.out]; rfl)⟩
    case measure => simp [RowKit.intOf]; omega
   | false =>
    have HC := Lib.hid hc
    clear hc
    have kc : ∀ w, Calls Tryz.prog 90 #[.int .u8 (s[k].toNat : Int)] w fun e w' => e = .returned (.bool false) ∧ w = w' := fun w => (name1_any _ w).mono fun e w' h => by rw [← HC.out]; exact h
    have KC := Lib.hid kc
    clear kc
    go_wp2_with fail
    refine (KC.out _).mono ?_; rintro e w' ⟨rfl, rfl⟩
    go_wp2_with fail
    go_ret
    exact ⟨ret_bool (all_false_of s _ k hlt HC.out).symm, rfl⟩
  ·go_wp2
   go_ret
   have ht := hp.out
   rw [List.take_of_length_le (by simp; omega)] at ht
   exact ⟨ret_bool (a := true) ht.symm, rfl⟩
theorem all_value (s : ByteArray) (w : World) (hs : s.size ≤ 9223372036854775807) :
  Calls Tryz.prog 89 #[.string s, .func (.func 93) #[] #[]] w fun e w' => e = .returned (.bool (Sp.allB Sp.valC s.data.toList)) ∧ w = w' := by
 go_enter Tryz.func89, Tryz.ntmps89
 go_wp2
 go_loop [5, 8] (fun _ i => ∃ k : Nat, k ≤ s.size ∧ i = .int .i64 k ∧ Hid ((s.data.toList.take k).all Sp.valC = true)) (fun _ i => s.size - (RowKit.intOf i).toNat)
 case atStart => exact ⟨0, Nat.zero_le _, rfl, Lib.hid rfl⟩
 case round =>
  obtain ⟨k, hk, rfl, hp⟩ := hrel
  by_cases hlt : k < s.size
  ·cases hc : Sp.valC s[k] with
   | true =>
    have HC := Lib.hid hc
    clear hc
    have kc : ∀ w, Calls Tryz.prog 93 #[.int .u8 (s[k].toNat : Int)] w fun e w' => e = .returned (.bool true) ∧ w = w' := fun w => (value1_any _ w).mono fun e w' h => by rw [← HC.out]; exact h
    have KC := Lib.hid kc
    clear kc
    go_wp2_with fail
    refine (KC.out _).mono ?_; rintro e w' ⟨rfl, rfl⟩
    go_wp2_with fail
    go_round
    case rel => exact ⟨k + 1, by omega, by go_num, Lib.hid (by rw [take_all_succ _ _ _ hlt, hp.out, HC.out]; rfl)⟩
    case measure => simp [RowKit.intOf]; omega
   | false =>
    have HC := Lib.hid hc
    clear hc
    have kc : ∀ w, Calls Tryz.prog 93 #[.int .u8 (s[k].toNat : Int)] w fun e w' => e = .returned (.bool false) ∧ w = w' := fun w => (value1_any _ w).mono fun e w' h => by rw [← HC.out]; exact h
    have KC := Lib.hid kc
    clear kc
    go_wp2_with fail
    refine (KC.out _).mono ?_; rintro e w' ⟨rfl, rfl⟩
    go_wp2_with fail
    go_ret
    exact ⟨ret_bool (all_false_of s _ k hlt HC.out).symm, rfl⟩
  ·go_wp2
   go_ret
   have ht := hp.out
   rw [List.take_of_length_le (by simp; omega)] at ht
   exact ⟨ret_bool (a := true) ht.symm, rfl⟩
theorem trim_any (s : ByteArray) (w : World) (hs : s.size ≤ 9223372036854775807) :
  Calls Tryz.prog 92 #[.string s] w fun e w' => e = .returned (.string ⟨(Sp.trim s.data.toList).toArray⟩) ∧ Below w.heap.size w w' := by
 have hcon := Any.strings_Trim_laid Tryz.lays160 (by kernel_rfl) s ⟨#[32, 9]⟩ w hs (by decide) (ascii_of_all (by decide))
 change Calls Tryz.prog 117 _ _ (fun e w' => e = .returned (.string ⟨(Sp.trim s.data.toList).toArray⟩) ∧ Below w.heap.size w w') at hcon
 generalize (⟨(Sp.trim s.data.toList).toArray⟩ : ByteArray) = r at hcon ⊢
 go_enter Tryz.func92, Tryz.ntmps92
 go_wp2_with (go_at_call 117; refine hcon.mono ?_; rintro e w' ⟨rfl, hB⟩)
 go_ret
 exact ⟨rfl, hB⟩

theorem name_any (s : ByteArray) (w : World) (hs : s.size ≤ 9223372036854775807) :
  Calls Tryz.prog 66 #[.string s] w fun e w' => e = .returned (.bool (Sp.nameB s.data.toList)) ∧ w = w' := by
 have hl : s.data.toList.length = s.size := by simp
 by_cases h0 : s.size = 0
 ·have he : s.toList = [] := by rw [Lib.toList_data]; exact List.eq_nil_of_length_eq_zero (by omega)
  have hf : Sp.nameB s.data.toList = false := by
   have : s.data.toList = [] := List.eq_nil_of_length_eq_zero (by omega)
   rw [this]; rfl
  rw [hf]
  clear hf hl h0
  go_enter Tryz.func66, Tryz.ntmps66
  go_wp2_with fail
  go_ret
  exact ⟨rfl, rfl⟩
 ·have he : s.toList.isEmpty = false := by
   rw [Lib.toList_data]
   cases h : s.data.toList with
   | nil => rw [h] at hl; simp at hl; omega
   | cons => rfl
  by_cases h40 : s.size ≤ 40
  ·have hd : decide ((s.size : Int) ≤ 40) = true := decide_eq_true (by omega)
   have hf : Sp.nameB s.data.toList = Sp.allB Sp.nameC s.data.toList := by
    unfold Sp.nameB
    rw [← Lib.toList_data, he, Lib.toList_data]
    simp [h40]
   rw [hf]
   clear hf hl h0
   have K := Lib.hid (all_name s w hs)
   generalize Sp.allB Sp.nameC s.data.toList = b at K ⊢
   go_enter Tryz.func66, Tryz.ntmps66
   go_wp2_with fail
   refine K.out.mono ?_; rintro e w' ⟨rfl, rfl⟩
   go_wp2_with fail
   go_ret
   exact ⟨rfl, rfl⟩
  ·have hd : decide ((s.size : Int) ≤ 40) = false := decide_eq_false (by omega)
   have hf : Sp.nameB s.data.toList = false := by
    unfold Sp.nameB
    simp [h40]
   rw [hf]
   clear hf hl h0
   go_enter Tryz.func66, Tryz.ntmps66
   go_wp2_with fail
   go_ret
   exact ⟨rfl, rfl⟩
theorem str_beq (l : List UInt8) (s : ByteArray) : ((⟨l.toArray⟩ : ByteArray).toList == s.toList) = (l == s.data.toList) := by
 rw [Lib.toList_data, Lib.toList_data]
theorem value_any (s : ByteArray) (w : World) (hs : s.size ≤ 9223372036854775807) :
  Calls Tryz.prog 67 #[.string s] w fun e w' => e = .returned (.bool (Sp.valB s.data.toList)) ∧ Below w.heap.size w w' := by
 have hl : s.data.toList.length = s.size := by simp
 by_cases h200 : s.size ≤ 200
 ·have hd : decide ((s.size : Int) ≤ 200) = true := decide_eq_true (by omega)
  have hK := trim_any s w hs
  have hbe := str_beq (Sp.trim s.data.toList) s
  have hv : Sp.valB s.data.toList = ((Sp.trim s.data.toList == s.data.toList) && Sp.allB Sp.valC s.data.toList) := by
   unfold Sp.valB; simp [h200]
  rw [hv]
  generalize (⟨(Sp.trim s.data.toList).toArray⟩ : ByteArray) = r at hK hbe
  generalize (Sp.trim s.data.toList == s.data.toList) = b at hbe ⊢
  have K := Lib.hid hK
  clear hK hv hl h200
  cases b
  ·go_enter Tryz.func67, Tryz.ntmps67
   go_wp2_with fail
   refine K.out.mono ?_; rintro e w' ⟨rfl, hB⟩
   go_wp2_with fail
   go_ret
   exact ⟨rfl, hB⟩
  ·have K2 := fun w => Lib.hid (all_value s w hs)
   generalize Sp.allB Sp.valC s.data.toList = c at K2 ⊢
   go_enter Tryz.func67, Tryz.ntmps67
   go_wp2_with fail
   refine K.out.mono ?_; rintro e w' ⟨rfl, hB⟩
   go_wp2_with fail
   refine (K2 _).out.mono ?_; rintro e w' ⟨rfl, rfl⟩
   go_wp2_with fail
   go_ret
   exact ⟨ret_bool (by simp), hB⟩
 ·have hd : decide ((s.size : Int) ≤ 200) = false := decide_eq_false (by omega)
  have hv : Sp.valB s.data.toList = false := by
   unfold Sp.valB; simp [h200]
  rw [hv]
  clear hl h200 hv
  go_enter Tryz.func67, Tryz.ntmps67
  go_wp2_with fail
  go_ret
  exact ⟨rfl, Below.refl _ _⟩
end Go.Proofs.YtapeodbgobkjeaaGreatDoor.H
namespace Go.Proofs.YtapeodbgobkjeaaGreatDoor.H
open Go.RowKit Go.Shelf Go.Lib

theorem bw_below (w : World) (e : TypeId) (s : ByteArray) : Below w.heap.size w (bytesWorld w e s) :=
 ⟨rfl, rfl, rfl, by rw [bytesWorld_size]; omega, fun k hk => bytesWorld_at_old w e s k hk⟩
theorem bw_size (w : World) (e : TypeId) (s : ByteArray) : s.size ≤ (bytesCells w e s).size := by
 simp [bytesCells]
theorem bw_frozen (w : World) (e : TypeId) (s : ByteArray) (j : Nat) (hj : j < s.size) : (bytesWorld w e s).frozen? ⟨w.heap.size, j, none⟩ = false := by
 have := bw_size w e s
 simp [World.frozen?, bytesWorld_at_new]; omega
def mix (s : ByteArray) (k j : Nat) : UInt8 := if j < k then Sp.lowC (s.data.toList.getD j 0) else s.data.toList.getD j 0
theorem mix_0 (s : ByteArray) (j : Nat) : mix s 0 j = s.data.toList.getD j 0 := by simp [mix]
theorem mix_at (s : ByteArray) (k : Nat) : mix s k k = s.data.toList.getD k 0 := by simp [mix]
theorem mix_succ_ne (s : ByteArray) (k j : Nat) (h : j ≠ k) : mix s (k + 1) j = mix s k j := by
 unfold mix
 by_cases h1 : j < k
 ·rw [if_pos h1, if_pos (by omega)]
 ·rw [if_neg h1, if_neg (by omega)]
theorem mix_succ_at (s : ByteArray) (k : Nat) : mix s (k + 1) k = Sp.lowC (s.data.toList.getD k 0) := by simp [mix]
theorem lowC_yes (c : UInt8) (h : inB (c.toNat : Int) 65 90 = true) : ((Sp.lowC c).toNat : Int) = (c.toNat : Int) - 65 + 97 := by
 have h1 : inB (c.toNat : Int) 65 90 = (65 ≤ c && c ≤ 90) := inB_u8 c 65 90
 rw [h1] at h
 unfold Sp.lowC
 rw [if_pos h]
 simp [UInt8.le_iff_toNat_le] at h
 rw [UInt8.toNat_add]
 simp; omega
theorem lowC_no (c : UInt8) (h : inB (c.toNat : Int) 65 90 = false) : Sp.lowC c = c := by
 have h1 : inB (c.toNat : Int) 65 90 = (65 ≤ c && c ≤ 90) := inB_u8 c 65 90
 rw [h1] at h
 unfold Sp.lowC
 rw [if_neg (by simpa using h)]
theorem inB_lo {a b c : Int} (h : inB a b c = true) : b ≤ a ∧ a ≤ c := by
 unfold inB at h; simpa using h
def LowRow (s : ByteArray) (B : Nat) (w : World) (k : Nat) (wr : World) : Prop :=
 (∀ j, j < s.size → wr.cell? ⟨B, j, none⟩ = some (.int .u8 ((mix s k j).toNat : Int))) ∧ (∀ j, j < s.size → wr.frozen? ⟨B, j, none⟩ = false) ∧ Below B w wr ∧ B < wr.heap.size
theorem LowRow.keep {s : ByteArray} {B : Nat} {w : World} {k : Nat} {wr : World} (h : LowRow s B w k wr) (hk : Sp.lowC (s.data.toList.getD k 0) = s.data.toList.getD k 0) : LowRow s B w (k + 1) wr := by
 refine ⟨fun j hj => ?_, h.2.1, h.2.2.1, h.2.2.2⟩
 rw [h.1 j hj]
 by_cases e : j = k
 ·subst e; rw [mix_succ_at, mix_at, hk]
 ·rw [mix_succ_ne _ _ _ e]
theorem LowRow.put {s : ByteArray} {B : Nat} {w : World} {k : Nat} {wr : World} (h : LowRow s B w k wr) (hk : k < s.size) (v : Int) (hv : ((Sp.lowC (s.data.toList.getD k 0)).toNat : Int) = v) : LowRow s B w (k + 1) (wr.setCell ⟨B, k, none⟩ (.int .u8 v)) := by
 refine ⟨fun j hj => ?_, fun j hj => ?_, h.2.2.1.setCell (Nat.le_refl _) _, ?_⟩
 ·by_cases e : j = k
  ·subst e
   rw [mix_succ_at, hv]
   exact World.cell?_setCell_same' _ _ _ (by rw [h.1 j hj]; rfl)
  ·rw [mix_succ_ne _ _ _ e, ← h.1 j hj]
   exact World.cell?_setCell_other _ _ _ _ (by intro e'; injection e' with _ e2; exact e e2.symm)
 ·rw [World.frozen?_setCell]; exact h.2.1 j hj
 ·simpa [World.setCell] using h.2.2.2
theorem addr_plain (g j : Nat) : (⟨g, 0, none⟩ : Addr).add j = ⟨g, j, none⟩ := by unfold Addr.add; split <;> simp_all
theorem lower_get (s : ByteArray) (j : Nat) (hj : j < s.size) : (Sp.lower s.data.toList)[j]? = some (mix s s.size j) := by
 unfold Sp.lower mix
 rw [if_pos hj, List.getElem?_map, List.getElem?_eq_getElem (by simpa using hj), List.getD_eq_getElem?_getD, List.getElem?_eq_getElem (by simpa using hj)]
 rfl
theorem lower_len (s : ByteArray) : (Sp.lower s.data.toList).length = s.size := by unfold Sp.lower; simp

set_option maxHeartbeats 800000 in
theorem lower_any (s : ByteArray) (w : World) (hs : s.size ≤ 9223372036854775807) :
  Calls Tryz.prog 55 #[.string s] w fun e w' => e = .returned (.string ⟨(Sp.lower s.data.toList).toArray⟩) ∧ Below w.heap.size w w' := by
 have hcv := Lib.run_convert_string_bytes (P := Tryz.prog) w 9 22 5 s Tryz.underlying9 Tryz.underlying22 Tryz.underlying5
 obtain ⟨W, hW⟩ : ∃ W, W = bytesWorld w 5 s := ⟨_, rfl⟩
 obtain ⟨cap, hcap⟩ : ∃ c, c = grownCap w s.size 0 5 := ⟨_, rfl⟩
 rw [← hW, ← hcap] at hcv
 have hrow : LowRow s w.heap.size w 0 W := by
  subst hW
  refine ⟨fun j hj => by rw [mix_0]; exact bytesWorld_cell _ _ _ j hj, fun j hj => bw_frozen _ _ _ j hj, bw_below _ _ _, by rw [bytesWorld_size]; omega⟩
 clear hW hcap
 have HR := Lib.hid hrow
 clear hrow
 obtain ⟨B, hB⟩ : ∃ B, B = w.heap.size := ⟨_, rfl⟩
 rw [← hB] at hcv HR ⊢
 have HB := Lib.hid hB
 clear hB
 go_enter Tryz.func55, Tryz.ntmps55
 go_wp2_with fail
 clear hcv
 go_loopw [4, 5, 10] (fun _ _ i wr => ∃ k : Nat, k ≤ s.size ∧ i = .int .i64 k ∧ Hid (LowRow s B w k wr)) (fun _ _ i _ => s.size - (RowKit.intOf i).toNat)
 case atStart => exact ⟨0, Nat.zero_le _, rfl, HR⟩
 case round =>
  obtain ⟨k, hk, rfl, hp⟩ := hrel
  by_cases hlt : k < s.size
  ·have hcell := hp.out.1 k hlt
   have hfr := hp.out.2.1 k hlt
   rw [mix_at] at hcell
   obtain ⟨c, hc⟩ : ∃ c, c = s.data.toList.getD k 0 := ⟨_, rfl⟩
   rw [← hc] at hcell
   have HC := Lib.hid hc
   clear hc
   have b0 : (c.toNat : Int) ≤ 255 := by have := c.toNat_lt; omega
   cases hb : inB (c.toNat : Int) 65 90 with
   | false =>
    have HI := Lib.hid hb
    clear hb
    have kc : ∀ w, Calls Tryz.prog 81 #[.int .u8 (c.toNat : Int), .int .u8 65, .int .u8 90] w fun e w' => e = .returned (.bool false) ∧ w = w' := fun w => (in_any _ _ _ w).mono fun e w' h => by rw [← HI.out]; exact h
    have KC := Lib.hid kc
    clear kc
    go_wp2_with fail
    refine (KC.out _).mono ?_; rintro e w' ⟨rfl, rfl⟩
    go_wp2_with fail
    go_roundw
    case rel => exact ⟨k + 1, by omega, by go_num, Lib.hid (hp.out.keep (by rw [← HC.out]; exact lowC_no c HI.out))⟩
    case measure => simp [RowKit.intOf]; omega
   | true =>
    have HI := Lib.hid hb
    clear hb
    have kc : ∀ w, Calls Tryz.prog 81 #[.int .u8 (c.toNat : Int), .int .u8 65, .int .u8 90] w fun e w' => e = .returned (.bool true) ∧ w = w' := fun w => (in_any _ _ _ w).mono fun e w' h => by rw [← HI.out]; exact h
    have KC := Lib.hid kc
    clear kc
    obtain ⟨b1, b2⟩ := inB_lo HI.out
    go_wp2_with fail
    refine (KC.out _).mono ?_; rintro e w' ⟨rfl, rfl⟩
    go_wp2_with fail
    go_roundw
    case rel => exact ⟨k + 1, by omega, by go_num, Lib.hid (hp.out.put hlt _ (by rw [← HC.out]; exact lowC_yes c HI.out))⟩
    case measure => simp [RowKit.intOf]; omega
  ·have hk' : k = s.size := by omega
   have HK := Lib.hid hk'
   clear hk'
   have hback := run_convert_bytes_back (P := Tryz.prog) wr 22 9 5 ⟨B, 0, none⟩ cap (Sp.lower s.data.toList) Tryz.underlying22 Tryz.underlying5 Tryz.underlying9 (fun j hj => by
    have hj' : j < s.size := by rw [lower_len] at hj; exact hj
    have h1 := hp.out.1 j hj'
    have h2 := lower_get s j hj'
    rw [HK.out] at h1
    rw [List.getElem?_eq_getElem hj] at h2
    injection h2 with h2
    rw [h2]
    rw [addr_plain]; exact h1)
   rw [lower_len] at hback
   have hfin := hp.out.2.2.1
   go_wp2_with fail
   go_ret
   exact ⟨rfl, HB.out ▸ hfin⟩
end Go.Proofs.YtapeodbgobkjeaaGreatDoor.H
namespace Go.Proofs.YtapeodbgobkjeaaGreatDoor.H
open Go.RowKit Go.Shelf Go.Lib

theorem index_split (l : List UInt8) (c : UInt8) :
  (indexByte l c = -1 ∧ c ∉ l) ∨ ∃ k : Nat, indexByte l c = (k : Int) ∧ k < l.length ∧ l.take k = l.takeWhile (· != c) ∧ l.drop (k + 1) = (l.dropWhile (· != c)).drop 1 ∧ c ∈ l := by
 induction l with
 | nil => exact .inl ⟨rfl, by simp⟩
 | cons b l ih =>
  by_cases e : b = c
  ·subst e
   exact .inr ⟨0, by unfold indexByte; simp, by simp, by simp [List.takeWhile], by simp [List.dropWhile], by simp⟩
  ·have e1 : (b == c) = false := by simpa using e
   have e2 : (b != c) = true := by simpa using e
   rcases ih with ⟨h1, h2⟩ | ⟨k, h1, h2, h3, h4, h5⟩
   ·refine .inl ⟨?_, ?_⟩
    ·unfold indexByte; rw [h1]; simp [e1]
    ·rw [List.mem_cons, not_or]; exact ⟨fun h => e h.symm, h2⟩
   ·refine .inr ⟨k + 1, ?_, by rw [List.length_cons]; omega, ?_, ?_, by simp [h5]⟩
    ·unfold indexByte
     rw [if_neg (by simp [e1]), h1, if_neg (by simp)]
     simp
    ·rw [List.take_succ_cons, h3, List.takeWhile_cons, e2]; rfl
    ·rw [List.drop_succ_cons, h4, List.dropWhile_cons, e2]; rfl

theorem ba_ext {a b : ByteArray} (h : a.data.toList = b.data.toList) : a = b := by
 cases a; cases b; congr 1; exact Array.toList_inj.mp h
end Go.Proofs.YtapeodbgobkjeaaGreatDoor.H
namespace Go.Proofs.YtapeodbgobkjeaaGreatDoor.H
open Go.RowKit Go.Shelf Go.Lib

theorem cutlib_any (s : ByteArray) (c : UInt8) (w : World) (hs : s.size ≤ 9223372036854775806) :
  Calls Tryz.prog 176 #[.string s, .string ⟨#[c]⟩] w fun e w' => e = .returned (.tuple #[.string ⟨(Sp.cutL c s.data.toList).toArray⟩, .string ⟨(Sp.cutR c s.data.toList).toArray⟩, .bool (Sp.cutIs c s.data.toList)]) ∧ ∃ n, w' = w.drewN n := by
 have hI := Tryz.stringslite_Index_one s c w
 have hl : s.data.toList.length = s.size := by simp
 rcases index_split s.data.toList c with ⟨h1, h2⟩ | ⟨k, h1, h2, h3, h4, h5⟩
 ·rw [h1] at hI
  have e1 : Sp.cutL c s.data.toList = s.data.toList := by unfold Sp.cutL; rw [if_neg h2]
  have e2 : Sp.cutR c s.data.toList = [] := by unfold Sp.cutR; rw [if_neg h2]
  have e3 : Sp.cutIs c s.data.toList = false := by unfold Sp.cutIs; simpa using h2
  rw [e1, e2, e3]
  clear e1 e2 e3 h1 h2 hl
  have K := Lib.hid hI
  clear hI
  go_enter Tryz.func176, Tryz.ntmps176
  go_wp2_with fail
  refine K.out.mono ?_; rintro e w' ⟨rfl, rfl⟩
  go_wp2_with fail
  go_ret3
  exact ⟨by simp, 0, rfl⟩
 ·rw [h1] at hI
  rw [hl] at h2
  have e1 : (⟨(Sp.cutL c s.data.toList).toArray⟩ : ByteArray) = s.extract 0 k := by
   apply ba_ext
   rw [Lib.extract_data]
   unfold Sp.cutL; rw [if_pos h5, ← h3]
   simp
  have e2 : (⟨(Sp.cutR c s.data.toList).toArray⟩ : ByteArray) = s.extract (k + 1) s.size := by
   apply ba_ext
   rw [Lib.extract_to_end]
   unfold Sp.cutR; rw [if_pos h5, h4]
  have e3 : Sp.cutIs c s.data.toList = true := by unfold Sp.cutIs; simpa using h5
  rw [e1, e2, e3]
  clear e1 e2 e3 h1 h3 h4 h5 hl
  have K := Lib.hid hI
  clear hI
  have b1 : (0 : Int) ≤ (k : Int) := by omega
  have b2 : (k : Int) ≤ (s.size : Int) := by omega
  have b3 : (k : Int) + 1 ≤ (s.size : Int) := by omega
  have b4 : (0 : Int) ≤ (k : Int) + 1 := by omega
  go_enter Tryz.func176, Tryz.ntmps176
  go_wp2_with fail
  refine K.out.mono ?_; rintro e w' ⟨rfl, rfl⟩
  go_wp2_with fail
  go_quiet (fail)
  go_wp2_with fail
  go_ret3
  exact ⟨rfl, _, rfl⟩

theorem cut_any (s : ByteArray) (c : UInt8) (w : World) (hs : s.size ≤ 9223372036854775806) :
  Calls Tryz.prog 160 #[.string s, .string ⟨#[c]⟩] w fun e w' => e = .returned (.tuple #[.string ⟨(Sp.cutL c s.data.toList).toArray⟩, .string ⟨(Sp.cutR c s.data.toList).toArray⟩, .bool (Sp.cutIs c s.data.toList)]) ∧ ∃ n, w' = w.drewN n := by
 have K := Lib.hid (cutlib_any s c w hs)
 generalize (⟨(Sp.cutL c s.data.toList).toArray⟩ : ByteArray) = x at K ⊢
 generalize (⟨(Sp.cutR c s.data.toList).toArray⟩ : ByteArray) = y at K ⊢
 generalize Sp.cutIs c s.data.toList = z at K ⊢
 go_enter Tryz.func160, Tryz.ntmps160
 go_wp2_with fail
 refine K.out.mono ?_; rintro e w' ⟨rfl, n, rfl⟩
 go_wp2_with fail
 go_ret3
 exact ⟨rfl, _, rfl⟩
end Go.Proofs.YtapeodbgobkjeaaGreatDoor.H
namespace Go.Proofs.YtapeodbgobkjeaaGreatDoor.H
open Go.RowKit Go.Shelf Go.Lib Go.Proofs.YtapeodbgobkjeaaGreatDoorW.PrintWords

theorem lower_step (s : ByteArray) (w0 w : World) (hs : s.size ≤ 9223372036854775807) (hB : Below w0.heap.size w0 w) (b : Nat) (hb : b < w0.heap.size) (v : Value) (hc : w0.cell? ⟨b, 0, none⟩ = some v) :
  Calls Tryz.prog 55 #[.string s] w fun e w' => e = .returned (.string ⟨(Sp.lower s.data.toList).toArray⟩) ∧ (w'.cell? ⟨b, 0, none⟩ = some v ∧ Below w0.heap.size w0 w') :=
 (lower_any s w hs).mono fun e w' ⟨h1, h2⟩ =>
  have h3 : Below w0.heap.size w0 w' := hB.trans (h2.mono hB.size)
  ⟨h1, (h3.cell (p := ⟨b, 0, none⟩) hb).trans hc, h3⟩

set_option maxHeartbeats 1600000 in
theorem drop1_any (n f : ByteArray) (w : World) (b : Nat) (hb : b < w.heap.size) (hn : n.size ≤ 9223372036854775807) (hf : f.size ≤ 9223372036854775807) (hc : w.cell? ⟨b, 0, none⟩ = some (.string f)) :
  Calls Tryz.prog 54 #[.string n, .pointer (some ⟨b, 0, none⟩)] w fun e w' => e = .returned (.bool (Sp.lower n.data.toList == Sp.lower f.data.toList)) ∧ Below w.heap.size w w' := by
 have e := str_beq (Sp.lower n.data.toList) ⟨(Sp.lower f.data.toList).toArray⟩
 simp only [List.toList_toArray] at e
 rw [← e]
 clear e
 have kn := fun W hB => lower_step n w W hn hB b hb (.string f) hc
 have kf := fun W hB => lower_step f w W hf hB b hb (.string f) hc
 generalize (⟨(Sp.lower n.data.toList).toArray⟩ : ByteArray) = x at kn ⊢
 generalize (⟨(Sp.lower f.data.toList).toArray⟩ : ByteArray) = y at kf ⊢
 have KN := Lib.hid kn
 have KF := Lib.hid kf
 clear kn kf
 have hr := Below.refl w.heap.size w
 go_enter Tryz.func54, Tryz.ntmps54
 go_wp2_with fail
 go_region_held3 (fun W => W.cell? ⟨b, 0, none⟩ = some (.string f) ∧ Below w.heap.size w W) (first | exact ⟨by simpa using hc, hr.drew⟩ | exact ⟨by assumption, by assumption⟩ | exact ⟨by simpa using hc1, hB1.drew⟩)
  (first
   | (go_at_call_of 55 (Value.string n); refine (KN.out _ ?_).mono ?_; (first | exact hr.drew | assumption); rintro e w' ⟨rfl, hc1, hB1⟩)
   | (go_at_call_of 55 (Value.string f); refine (KF.out _ ?_).mono ?_; (first | exact hr.drew | assumption); rintro e w' ⟨rfl, hc1, hB1⟩))
 all_goals go_wp2_with fail
 all_goals go_ret
 all_goals exact ⟨rfl, by assumption⟩
def sameName (f n : ByteArray) : Bool := Sp.lower n.data.toList == Sp.lower f.data.toList
def idxP (p : ByteArray → Bool) (l : List ByteArray) : Int := match l.findIdx? p with | some k => (k : Int) | none => -1
theorem idxP_at (p : ByteArray → Bool) (l : List ByteArray) (k : Nat) (hk : k < l.length) (h : ∀ j, j < k → p (l.getD j ByteArray.empty) = false) (hp : p (l.getD k ByteArray.empty) = true) : idxP p l = (k : Int) := by
 have e : l.findIdx? p = some k := by
  rw [List.findIdx?_eq_some_iff_getElem]
  refine ⟨hk, ?_, fun j hj => ?_⟩
  ·rw [List.getD_eq_getElem?_getD, List.getElem?_eq_getElem hk] at hp; exact hp
  ·have := h j hj
   rw [List.getD_eq_getElem?_getD, List.getElem?_eq_getElem (by omega)] at this
   simpa using this
 unfold idxP; rw [e]
theorem idxP_none (p : ByteArray → Bool) (l : List ByteArray) (h : ∀ j, j < l.length → p (l.getD j ByteArray.empty) = false) : idxP p l = -1 := by
 have e : l.findIdx? p = none := by
  rw [List.findIdx?_eq_none_iff]
  intro x hx
  obtain ⟨j, hj, rfl⟩ := List.getElem_of_mem hx
  have := h j hj
  rw [List.getD_eq_getElem?_getD, List.getElem?_eq_getElem hj] at this
  exact this
 unfold idxP; rw [e]
theorem idxP_any (p : ByteArray → Bool) (l : List ByteArray) : decide (0 ≤ idxP p l) = l.any p := by
 unfold idxP
 cases e : l.findIdx? p with
 | none =>
  rw [List.findIdx?_eq_none_iff] at e
  have : l.any p = false := by rw [List.any_eq_false]; intro x hx; simp [e x hx]
  rw [this]; rfl
 | some k =>
  rw [List.findIdx?_eq_some_iff_getElem] at e
  obtain ⟨h, hp, _⟩ := e
  have : l.any p = true := by rw [List.any_eq_true]; exact ⟨l[k], List.getElem_mem _, hp⟩
  rw [this]; simp
def Small (l : List ByteArray) : Prop := ∀ x ∈ l, x.size ≤ 9223372036854775807
theorem Small.at {l : List ByteArray} (h : Small l) (k : Nat) : (l.getD k ByteArray.empty).size ≤ 9223372036854775807 := by
 rw [List.getD_eq_getElem?_getD]
 cases e : l[k]? with
 | none => simp
 | some x => exact h x (List.mem_of_getElem? e)

set_option maxHeartbeats 1600000 in
theorem idxf_any (l : List ByteArray) (f : ByteArray) (A : Option Addr) (c : Nat) (w : World) (b : Nat) (hb : b < w.heap.size) (hl : Small l) (hf : f.size ≤ 9223372036854775807) (hn : l.length ≤ 9223372036854775807)
  (hr : Kd.C Kd.string w A l.length l) (hc : w.cell? ⟨b, 0, none⟩ = some (.string f)) :
  Calls Tryz.prog 80 #[.slice A l.length c, .func (.func 54) #[] #[.pointer (some ⟨b, 0, none⟩)]] w fun e w' => e = .returned (.int .i64 (idxP (sameName f) l)) ∧ Below w.heap.size w w' := by
 have HR := Lib.hid hr
 have HL := Lib.hid hl
 have HC := Lib.hid hc
 clear hr hl hc
 go_enter Tryz.func80, Tryz.ntmps80
 go_wp2
 go_loopw [5, 8] (fun _ i wr => ∃ k : Nat, k ≤ l.length ∧ i = .int .i64 k ∧ Hid (∀ j, j < k → sameName f (l.getD j ByteArray.empty) = false) ∧ Hid (Below w.heap.size w wr)) (fun _ i _ => l.length - (RowKit.intOf i).toNat)
 case atStart => exact ⟨0, Nat.zero_le _, rfl, Lib.hid (fun j hj => by omega), Lib.hid (Below.refl _ _)⟩
 case round =>
  obtain ⟨k, hk, rfl, hp, hB⟩ := hrel
  by_cases hlt : k < l.length
  ·obtain ⟨ad, rfl, hcell⟩ := Kd.at_string HR.out (k : Int) (by omega) (by omega)
   have hcell2 := (hB.out.cell (World.block_lt_of_cell? w _ hcell)).trans hcell
   clear hcell
   rw [Int.toNat_natCast] at hcell2
   have hx : rdOf ByteArray.empty l (k : Int) = l.getD k ByteArray.empty := by simp [rdOf]
   rw [hx] at hcell2
   clear hx
   obtain ⟨x, hx⟩ : ∃ x, x = l.getD k ByteArray.empty := ⟨_, rfl⟩
   rw [← hx] at hcell2
   have hxs : x.size ≤ 9223372036854775807 := by rw [hx]; exact HL.out.at k
   have HX := Lib.hid hx
   clear hx
   have K := Lib.hid (drop1_any x f wr b (Nat.lt_of_lt_of_le hb hB.out.size) hxs hf ((hB.out.cell (p := ⟨b, 0, none⟩) hb).trans HC.out))
   cases hv : (Sp.lower x.data.toList == Sp.lower f.data.toList) with
   | true =>
    rw [hv] at K
    have HV := Lib.hid hv
    clear hv
    go_wp2_with fail
    refine K.out.mono ?_; rintro e w' ⟨rfl, hB2⟩
    go_wp2_with fail
    go_ret
    exact ⟨ret_int (idxP_at _ _ k hlt hp.out (by rw [← HX.out]; exact HV.out)).symm, hB.out.trans (hB2.mono hB.out.size)⟩
   | false =>
    rw [hv] at K
    have HV := Lib.hid hv
    clear hv
    go_wp2_with fail
    refine K.out.mono ?_; rintro e w' ⟨rfl, hB2⟩
    go_wp2_with fail
    go_roundw
    case rel => exact ⟨k + 1, by omega, by go_num, Lib.hid (fun j hj => by
     by_cases e : j = k
     ·subst e; rw [← HX.out]; exact HV.out
     ·exact hp.out j (by omega)), Lib.hid (hB.out.trans (hB2.mono hB.out.size))⟩
    case measure => simp [RowKit.intOf]; omega
  ·go_wp2
   go_ret
   exact ⟨ret_int (idxP_none _ _ (fun j hj => hp.out j (by omega))).symm, hB.out⟩

set_option maxHeartbeats 1600000 in
theorem has_any (l : List ByteArray) (f : ByteArray) (A : Option Addr) (c : Nat) (w : World) (b : Nat) (hb : b < w.heap.size) (hl : Small l) (hf : f.size ≤ 9223372036854775807) (hn : l.length ≤ 9223372036854775807)
  (hr : Kd.C Kd.string w A l.length l) (hc : w.cell? ⟨b, 0, none⟩ = some (.string f)) :
  Calls Tryz.prog 53 #[.slice A l.length c, .func (.func 54) #[] #[.pointer (some ⟨b, 0, none⟩)]] w fun e w' => e = .returned (.bool (l.any (sameName f))) ∧ Below w.heap.size w w' := by
 rw [← idxP_any]
 have K := Lib.hid (idxf_any l f A c w b hb hl hf hn hr hc)
 generalize idxP (sameName f) l = r at K ⊢
 clear hr hl hc
 go_enter Tryz.func53, Tryz.ntmps53
 go_wp2_with fail
 refine K.out.mono ?_; rintro e w' ⟨rfl, hB⟩
 go_wp2_with fail
 go_ret
 exact ⟨rfl, hB⟩

end Go.Proofs.YtapeodbgobkjeaaGreatDoor.H
namespace Go.Proofs.YtapeodbgobkjeaaGreatDoor.H
open Go.RowKit Go

end Go.Proofs.YtapeodbgobkjeaaGreatDoor.H
namespace Go.Proofs.YtapeodbgobkjeaaGreatDoor.H
open Go.RowKit Go.Shelf Go
attribute [local go_sem] Oper.semAt_some

def mkB (l : List UInt8) : ByteArray := ⟨l.toArray⟩
structure SplitAt (bp bs bv : Nat) (c : UInt8) (s0 rest : ByteArray) (J : Nat → World → Prop) (k : Nat) (wr : World) : Prop where
 p : wr.cell? ⟨bp, 0, none⟩ = some (.string ⟨#[c]⟩)
 s : wr.cell? ⟨bs, 0, none⟩ = some (.string rest)
 f : wr.frozen? ⟨bs, 0, none⟩ = false
 v : wr.cell? ⟨bv, 0, none⟩ = some (.int .i64 0)
 j : J k wr
 e : (Sp.parts c s0.data.toList).drop k = Sp.parts c rest.data.toList
 z : rest.size ≤ 9223372036854775806
end Go.Proofs.YtapeodbgobkjeaaGreatDoor.H
namespace Go.Proofs.YtapeodbgobkjeaaGreatDoor.H
open Go.RowKit Go.Shelf Go
attribute [local go_sem] Oper.semAt_some

def piece (p : List UInt8) : List UInt8 := Sp.lower (Sp.trim p)
def kept (p : List UInt8) : Bool := !(piece p).isEmpty
theorem grown_of_below {A B : World} (h : Below A.heap.size A B) : A.grownBy B none := ⟨h.os, h.tape, h.output, h.size, fun k hk _ => h.block k hk⟩
theorem cell_of_heap {W : World} {b : Nat} {v : Value} {t : TypeId} (h : W.heap[b]? = some (.cells #[v] t (0, 0))) : W.cell? ⟨b, 0, none⟩ = some v := by
 unfold World.cell?; rw [h]; rfl
theorem frozen_of_heap {W : World} {b : Nat} {v : Value} {t : TypeId} (h : W.heap[b]? = some (.cells #[v] t (0, 0))) : W.frozen? ⟨b, 0, none⟩ = false := by
 unfold World.frozen?; rw [h]; rfl

structure PieceAt (H : Nat) (l : Nat) (J : Nat → World → Prop) (j : Nat) (W : World) : Prop where
 j : J j W
 c : W.cell? ⟨H, 0, none⟩ = some (.func (.yield l) #[] #[])
 z : H + 5 < W.heap.size

end Go.Proofs.YtapeodbgobkjeaaGreatDoor.H
