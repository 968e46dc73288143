/- Several parts together: The plain functions of the hand contracts on header fields (names, values, trimming, small letters, items): lists of bytes alone, no program; Contracts of the functions of package field that take function values: what is told of names and values; The contract of field.Lower: a text in small letters; Lists of bytes at the first byte of a kind; texts by their bytes. -/
import Derived.Lib.SlTrimSet
import Derived.Test.YtemhokkfefidlaaGreatDoorShelf
import Derived.WalkKit
import Derived.KernelRfl
import Derived.LoopTactic
import Derived.Lib.Hide
import Derived.Outline
import Derived.Shelf.Strings.SlTrimAscii
import Derived.Lib.ConvBytes
import Derived.Laws.IdiomStrings
import Derived.OwnWalk
import Derived.Below
import Derived.Deep.QuietTactic
import Derived.BigQuiet
set_option linter.unusedVariables false
set_option linter.unusedSimpArgs false
namespace Go.Proofs.YtemhokkfefidlaaGreatDoor.Sp
def nameC (c : UInt8) : Bool := (48 ≤ c && c ≤ 57) || ((97 ≤ c && c ≤ 122) || ((65 ≤ c && c ≤ 90) || ([33, 35, 36, 37, 38, 39, 42, 43, 45, 46, 94, 95, 96, 124, 126] : List UInt8).contains c))
def allB (p : UInt8 → Bool) (l : List UInt8) : Bool := l.all p
def nameB (l : List UInt8) : Bool := !l.isEmpty && (decide (l.length ≤ 40) && allB nameC l)
def valC (c : UInt8) : Bool := c == 9 || (32 ≤ c && c ≤ 126)
def trim (l : List UInt8) : List UInt8 := Lib.trimS l [32, 9]
def valB (l : List UInt8) : Bool := decide (l.length ≤ 200) && (trim l == l && allB valC l)
def lowC (c : UInt8) : UInt8 := if 65 ≤ c && c ≤ 90 then c + 32 else c
def cutL (c : UInt8) (l : List UInt8) : List UInt8 := if c ∈ l then l.takeWhile (· != c) else l
def cutR (c : UInt8) (l : List UInt8) : List UInt8 := if c ∈ l then (l.dropWhile (· != c)).drop 1 else []
def cutIs (c : UInt8) (l : List UInt8) : Bool := l.contains c
end Go.Proofs.YtemhokkfefidlaaGreatDoor.Sp
namespace Go.Proofs.YtemhokkfefidlaaGreatDoor.H
open Go.RowKit Go.Shelf Go.Lib

theorem ret_bool {a b : Bool} (h : a = b) : Ending.returned (.bool a) = .returned (.bool b) := by rw [h]
theorem ret_int {k : IntKind} {a b : Int} (h : a = b) : Ending.returned (.int k a) = .returned (.int k b) := by rw [h]
def inB (a b c : Int) : Bool := decide (b ≤ a) && decide (a ≤ c)
theorem in_any (a b c : Int) (w : World) : Calls Tryz.prog 62 #[.int .u8 a, .int .u8 b, .int .u8 c] w fun e w' => e = .returned (.bool (inB a b c)) ∧ w = w' := by
 unfold inB
 by_cases h : b ≤ a
 ·have hb : decide (b ≤ a) = true := decide_eq_true h
  go_enter Tryz.func62, Tryz.ntmps62
  go_wp2
  all_goals
   go_ret
   exact ⟨by simp [h], rfl⟩
 ·have hb : decide (b ≤ a) = false := decide_eq_false h
  go_enter Tryz.func62, Tryz.ntmps62
  go_wp2
  all_goals
   go_ret
   exact ⟨by simp [h], rfl⟩

theorem inB_u8 (c a b : UInt8) : inB (c.toNat : Int) (a.toNat : Int) (b.toNat : Int) = (a ≤ c && c ≤ b) := by
 unfold inB
 rw [Bool.eq_iff_iff]; simp [UInt8.le_iff_toNat_le]

def signs : List UInt8 := [33, 35, 36, 37, 38, 39, 42, 43, 45, 46, 94, 95, 96, 124, 126]
theorem index_contains (l : List UInt8) (c : UInt8) : decide (0 ≤ indexByte l c) = l.contains c := by
 induction l with
 | nil => rfl
 | cons b l ih =>
  have hg := indexByte_ge l c
  unfold indexByte
  rw [List.contains_cons]
  by_cases e : b = c
  ·subst e; simp
  ·have e1 : (b == c) = false := by simpa using e
   have e2 : (c == b) = false := by simpa using fun h : c = b => e h.symm
   rw [if_neg (by simp [e1]), e2, Bool.false_or, ← ih]
   by_cases h : indexByte l c = -1
   ·simp [h]
   ·rw [if_neg (by simpa using h)]
    rw [Bool.eq_iff_iff]; simp; omega
def ixB (c : UInt8) : Int := indexByte signs c
theorem indexByte_signs (c : UInt8) (w : World) : Calls Tryz.prog 63 #[.string ⟨#[33, 35, 36, 37, 38, 39, 42, 43, 45, 46, 94, 95, 96, 124, 126]⟩, .int .u8 (c.toNat : Int)] w fun e w' => e = .returned (.int .i64 (ixB c)) ∧ w = w' := by
 refine (Tryz.strings_IndexByte ⟨#[33, 35, 36, 37, 38, 39, 42, 43, 45, 46, 94, 95, 96, 124, 126]⟩ (c.toNat : Int) w).mono ?_
 rintro e w' ⟨rfl, rfl⟩
 refine ⟨?_, rfl⟩
 unfold ixB signs
 simp

theorem name1_any (c : UInt8) (w : World) : Calls Tryz.prog 61 #[.int .u8 (c.toNat : Int)] w fun e w' => e = .returned (.bool (Sp.nameC c)) ∧ w = w' := by
 have e : Sp.nameC c = (inB (c.toNat : Int) 48 57 || (inB (c.toNat : Int) 97 122 || (inB (c.toNat : Int) 65 90 || decide (0 ≤ ixB c)))) := by
  have h1 : inB (c.toNat : Int) 48 57 = (48 ≤ c && c ≤ 57) := inB_u8 c 48 57
  have h2 : inB (c.toNat : Int) 97 122 = (97 ≤ c && c ≤ 122) := inB_u8 c 97 122
  have h3 : inB (c.toNat : Int) 65 90 = (65 ≤ c && c ≤ 90) := inB_u8 c 65 90
  unfold Sp.nameC
  rw [h1, h2, h3]
  unfold ixB signs
  rw [index_contains]
 rw [e]
 clear e
 generalize hb1 : inB (c.toNat : Int) 48 57 = b1
 generalize hb2 : inB (c.toNat : Int) 97 122 = b2
 generalize hb3 : inB (c.toNat : Int) 65 90 = b3
 have H1 := Lib.hid hb1
 have H2 := Lib.hid hb2
 have H3 := Lib.hid hb3
 clear hb1 hb2 hb3
 have k1 : ∀ w, Calls Tryz.prog 62 #[.int .u8 (c.toNat : Int), .int .u8 48, .int .u8 57] w fun e w' => e = .returned (.bool b1) ∧ w = w' := fun w => (in_any _ _ _ w).mono fun e w' h => by rw [← H1.out]; exact h
 have k2 : ∀ w, Calls Tryz.prog 62 #[.int .u8 (c.toNat : Int), .int .u8 97, .int .u8 122] w fun e w' => e = .returned (.bool b2) ∧ w = w' := fun w => (in_any _ _ _ w).mono fun e w' h => by rw [← H2.out]; exact h
 have k3 : ∀ w, Calls Tryz.prog 62 #[.int .u8 (c.toNat : Int), .int .u8 65, .int .u8 90] w fun e w' => e = .returned (.bool b3) ∧ w = w' := fun w => (in_any _ _ _ w).mono fun e w' h => by rw [← H3.out]; exact h
 have K1 := Lib.hid k1
 have K2 := Lib.hid k2
 have K3 := Lib.hid k3
 clear k1 k2 k3
 cases b1
 ·cases b2
  ·cases b3
   ·go_enter Tryz.func61, Tryz.ntmps61
    go_wp2_with fail
    refine (K1.out _).mono ?_; rintro e w' ⟨rfl, rfl⟩
    go_wp2_with fail
    refine (K2.out _).mono ?_; rintro e w' ⟨rfl, rfl⟩
    go_wp2_with fail
    refine (K3.out _).mono ?_; rintro e w' ⟨rfl, rfl⟩
    go_wp2_with fail
    refine (indexByte_signs c _).mono ?_; rintro e w' ⟨rfl, rfl⟩
    go_wp2_with fail
    go_ret
    exact ⟨by simp, rfl⟩
   ·go_enter Tryz.func61, Tryz.ntmps61
    go_wp2_with fail
    refine (K1.out _).mono ?_; rintro e w' ⟨rfl, rfl⟩
    go_wp2_with fail
    refine (K2.out _).mono ?_; rintro e w' ⟨rfl, rfl⟩
    go_wp2_with fail
    refine (K3.out _).mono ?_; rintro e w' ⟨rfl, rfl⟩
    go_wp2_with fail
    go_ret
    exact ⟨by simp, rfl⟩
  ·go_enter Tryz.func61, Tryz.ntmps61
   go_wp2_with fail
   refine (K1.out _).mono ?_; rintro e w' ⟨rfl, rfl⟩
   go_wp2_with fail
   refine (K2.out _).mono ?_; rintro e w' ⟨rfl, rfl⟩
   go_wp2_with fail
   go_ret
   exact ⟨by simp, rfl⟩
 ·go_enter Tryz.func61, Tryz.ntmps61
  go_wp2_with fail
  refine (K1.out _).mono ?_; rintro e w' ⟨rfl, rfl⟩
  go_wp2_with fail
  go_ret
  exact ⟨by simp, rfl⟩
theorem value1_any (c : UInt8) (w : World) : Calls Tryz.prog 64 #[.int .u8 (c.toNat : Int)] w fun e w' => e = .returned (.bool (Sp.valC c)) ∧ w = w' := by
 have e : Sp.valC c = (decide ((c.toNat : Int) = 9) || inB (c.toNat : Int) 32 126) := by
  have h1 : inB (c.toNat : Int) 32 126 = (32 ≤ c && c ≤ 126) := inB_u8 c 32 126
  unfold Sp.valC
  rw [h1]
  congr 1
  rw [Bool.eq_iff_iff]; simp [← UInt8.toNat_inj]; omega
 rw [e]
 clear e
 generalize hb1 : inB (c.toNat : Int) 32 126 = b1
 have H1 := Lib.hid hb1
 clear hb1
 have k1 : ∀ w, Calls Tryz.prog 62 #[.int .u8 (c.toNat : Int), .int .u8 32, .int .u8 126] w fun e w' => e = .returned (.bool b1) ∧ w = w' := fun w => (in_any _ _ _ w).mono fun e w' h => by rw [← H1.out]; exact h
 have K1 := Lib.hid k1
 clear k1
 by_cases h : (c.toNat : Int) = 9
 ·have h' : ((c.toNat : Int) == 9) = true := by simpa using h
  have H := Lib.hid h
  clear h
  go_enter Tryz.func64, Tryz.ntmps64
  go_wp2_with fail
  go_ret
  exact ⟨by rw [H.out]; simp, rfl⟩
 ·have h' : ((c.toNat : Int) == 9) = false := by simpa using h
  have H := Lib.hid h
  clear h
  go_enter Tryz.func64, Tryz.ntmps64
  go_wp2_with fail
  refine (K1.out _).mono ?_; rintro e w' ⟨rfl, rfl⟩
  go_wp2_with fail
  go_ret
  exact ⟨by simp [H.out], rfl⟩

theorem take_all_succ (s : ByteArray) (p : UInt8 → Bool) (k : Nat) (h : k < s.size) : (s.data.toList.take (k + 1)).all p = ((s.data.toList.take k).all p && p s[k]) := by
 rw [List.take_succ_eq_append_getElem (by simpa using h)]
 rw [List.all_append]; simp; rfl
theorem all_false_of (s : ByteArray) (p : UInt8 → Bool) (k : Nat) (h : k < s.size) (hp : p s[k] = false) : s.data.toList.all p = false := by
 rw [List.all_eq_false]
 exact ⟨s[k], by rw [ByteArray.getElem_eq_getElem_data]; exact Array.mem_toList_iff.mpr (Array.getElem_mem _), by simp [hp]⟩

theorem all_name (s : ByteArray) (w : World) (hs : s.size ≤ 9223372036854775807) :
  Calls Tryz.prog 60 #[.string s, .func (.func 61) #[] #[]] w fun e w' => e = .returned (.bool (Sp.allB Sp.nameC s.data.toList)) ∧ w = w' := by
 go_enter Tryz.func60, Tryz.ntmps60
 go_wp2
 go_loop [5, 8] (fun _ i => ∃ k : Nat, k ≤ s.size ∧ i = .int .i64 k ∧ Hid ((s.data.toList.take k).all Sp.nameC = true)) (fun _ i => s.size - (RowKit.intOf i).toNat)
 case atStart => exact ⟨0, Nat.zero_le _, rfl, Lib.hid rfl⟩
 case round =>
  obtain ⟨k, hk, rfl, hp⟩ := hrel
  by_cases hlt : k < s.size
  ·cases hc : Sp.nameC s[k] with
   | true =>
    have HC := Lib.hid hc
    clear hc
    have kc : ∀ w, Calls Tryz.prog 61 #[.int .u8 (s[k].toNat : Int)] w fun e w' => e = .returned (.bool true) ∧ w = w' := fun w => (name1_any _ w).mono fun e w' h => by rw [← HC.out]; exact h
    have KC := Lib.hid kc
    clear kc
    go_wp2_with fail
    refine (KC.out _).mono ?_; rintro e w' ⟨rfl, rfl⟩
    go_wp2_with fail
    go_round
    case rel => exact ⟨k + 1, by omega, by go_num, Lib.hid (by rw [take_all_succ _ _ _ hlt, hp.out, HC.out]; rfl)⟩
    case measure => simp [RowKit.intOf]; omega
   | false =>
    have HC := Lib.hid hc
    clear hc
    have kc : ∀ w, Calls Tryz.prog 61 #[.int .u8 (s[k].toNat : Int)] w fun e w' => e = .returned (.bool false) ∧ w = w' := fun w => (name1_any _ w).mono fun e w' h => by rw [← HC.out]; exact h
    have KC := Lib.hid kc
    clear kc
    go_wp2_with fail
    refine (KC.out _).mono ?_; rintro e w' ⟨rfl, rfl⟩
    go_wp2_with fail
    go_ret
    exact ⟨ret_bool (all_false_of s _ k hlt HC.out).symm, rfl⟩
  ·go_wp2
   go_ret
   have ht := hp.out
   rw [List.take_of_length_le (by simp; omega)] at ht
   exact ⟨ret_bool (a := true) ht.symm, rfl⟩
theorem all_value (s : ByteArray) (w : World) (hs : s.size ≤ 9223372036854775807) :
  Calls Tryz.prog 60 #[.string s, .func (.func 64) #[] #[]] w fun e w' => e = .returned (.bool (Sp.allB Sp.valC s.data.toList)) ∧ w = w' := by
 go_enter Tryz.func60, Tryz.ntmps60
 go_wp2
 go_loop [5, 8] (fun _ i => ∃ k : Nat, k ≤ s.size ∧ i = .int .i64 k ∧ Hid ((s.data.toList.take k).all Sp.valC = true)) (fun _ i => s.size - (RowKit.intOf i).toNat)
 case atStart => exact ⟨0, Nat.zero_le _, rfl, Lib.hid rfl⟩
 case round =>
  obtain ⟨k, hk, rfl, hp⟩ := hrel
  by_cases hlt : k < s.size
  ·cases hc : Sp.valC s[k] with
   | true =>
    have HC := Lib.hid hc
    clear hc
    have kc : ∀ w, Calls Tryz.prog 64 #[.int .u8 (s[k].toNat : Int)] w fun e w' => e = .returned (.bool true) ∧ w = w' := fun w => (value1_any _ w).mono fun e w' h => by rw [← HC.out]; exact h
    have KC := Lib.hid kc
    clear kc
    go_wp2_with fail
    refine (KC.out _).mono ?_; rintro e w' ⟨rfl, rfl⟩
    go_wp2_with fail
    go_round
    case rel => exact ⟨k + 1, by omega, by go_num, Lib.hid (by rw [take_all_succ _ _ _ hlt, hp.out, HC.out]; rfl)⟩
    case measure => simp [RowKit.intOf]; omega
   | false =>
    have HC := Lib.hid hc
    clear hc
    have kc : ∀ w, Calls Tryz.prog 64 #[.int .u8 (s[k].toNat : Int)] w fun e w' => e = .returned (.bool false) ∧ w = w' := fun w => (value1_any _ w).mono fun e w' h => by rw [← HC.out]; exact h
    have KC := Lib.hid kc
    clear kc
    go_wp2_with fail
    refine (KC.out _).mono ?_; rintro e w' ⟨rfl, rfl⟩
    go_wp2_with fail
    go_ret
    exact ⟨ret_bool (all_false_of s _ k hlt HC.out).symm, rfl⟩
  ·go_wp2
   go_ret
   have ht := hp.out
   rw [List.take_of_length_le (by simp; omega)] at ht
   exact ⟨ret_bool (a := true) ht.symm, rfl⟩
theorem trim_any (s : ByteArray) (w : World) (hs : s.size ≤ 9223372036854775807) :
  Calls Tryz.prog 54 #[.string s] w fun e w' => e = .returned (.string ⟨(Sp.trim s.data.toList).toArray⟩) ∧ Below w.heap.size w w' := by
 have hcon := Any.strings_Trim_laid Tryz.lays160 (by kernel_rfl) s ⟨#[32, 9]⟩ w hs (by decide) (ascii_of_all (by decide))
 change Calls Tryz.prog 80 _ _ (fun e w' => e = .returned (.string ⟨(Sp.trim s.data.toList).toArray⟩) ∧ Below w.heap.size w w') at hcon
 generalize (⟨(Sp.trim s.data.toList).toArray⟩ : ByteArray) = r at hcon ⊢
 go_enter Tryz.func54, Tryz.ntmps54
 go_wp2_with (go_at_call 80; refine hcon.mono ?_; rintro e w' ⟨rfl, hB⟩)
 go_ret
 exact ⟨rfl, hB⟩

theorem name_any (s : ByteArray) (w : World) (hs : s.size ≤ 9223372036854775807) :
  Calls Tryz.prog 32 #[.string s] w fun e w' => e = .returned (.bool (Sp.nameB s.data.toList)) ∧ w = w' := by
 have hl : s.data.toList.length = s.size := by simp
 by_cases h0 : s.size = 0
 ·have he : s.toList = [] := by rw [Lib.toList_data]; exact List.eq_nil_of_length_eq_zero (by omega)
  have hf : Sp.nameB s.data.toList = false := by
   have : s.data.toList = [] := List.eq_nil_of_length_eq_zero (by omega)
   rw [this]; rfl
  rw [hf]
  clear hf hl h0
  go_enter Tryz.func32, Tryz.ntmps32
  go_wp2_with fail
  go_ret
  exact ⟨rfl, rfl⟩
 ·have he : s.toList.isEmpty = false := by
   rw [Lib.toList_data]
   cases h : s.data.toList with
   | nil => rw [h] at hl; simp at hl; omega
   | cons => rfl
  by_cases h40 : s.size ≤ 40
  ·have hd : decide ((s.size : Int) ≤ 40) = true := decide_eq_true (by omega)
   have hf : Sp.nameB s.data.toList = Sp.allB Sp.nameC s.data.toList := by
    unfold Sp.nameB
    rw [← Lib.toList_data, he, Lib.toList_data]
    simp [h40]
   rw [hf]
   clear hf hl h0
   have K := Lib.hid (all_name s w hs)
   generalize Sp.allB Sp.nameC s.data.toList = b at K ⊢
   go_enter Tryz.func32, Tryz.ntmps32
   go_wp2_with fail
   refine K.out.mono ?_; rintro e w' ⟨rfl, rfl⟩
   go_wp2_with fail
   go_ret
   exact ⟨rfl, rfl⟩
  ·have hd : decide ((s.size : Int) ≤ 40) = false := decide_eq_false (by omega)
   have hf : Sp.nameB s.data.toList = false := by
    unfold Sp.nameB
    simp [h40]
   rw [hf]
   clear hf hl h0
   go_enter Tryz.func32, Tryz.ntmps32
   go_wp2_with fail
   go_ret
   exact ⟨rfl, rfl⟩
theorem str_beq (l : List UInt8) (s : ByteArray) : ((⟨l.toArray⟩ : ByteArray).toList == s.toList) = (l == s.data.toList) := by
 rw [Lib.toList_data, Lib.toList_data]
theorem value_any (s : ByteArray) (w : World) (hs : s.size ≤ 9223372036854775807) :
  Calls Tryz.prog 33 #[.string s] w fun e w' => e = .returned (.bool (Sp.valB s.data.toList)) ∧ Below w.heap.size w w' := by
 have hl : s.data.toList.length = s.size := by simp
 by_cases h200 : s.size ≤ 200
 ·have hd : decide ((s.size : Int) ≤ 200) = true := decide_eq_true (by omega)
  have hK := trim_any s w hs
  have hbe := str_beq (Sp.trim s.data.toList) s
  have hv : Sp.valB s.data.toList = ((Sp.trim s.data.toList == s.data.toList) && Sp.allB Sp.valC s.data.toList) := by
   unfold Sp.valB; simp [h200]
  rw [hv]
  generalize (⟨(Sp.trim s.data.toList).toArray⟩ : ByteArray) = r at hK hbe
  generalize (Sp.trim s.data.toList == s.data.toList) = b at hbe ⊢
  have K := Lib.hid hK
  clear hK hv hl h200
  cases b
  ·go_enter Tryz.func33, Tryz.ntmps33
   go_wp2_with fail
   refine K.out.mono ?_; rintro e w' ⟨rfl, hB⟩
   go_wp2_with fail
   go_ret
   exact ⟨rfl, hB⟩
  ·have K2 := fun w => Lib.hid (all_value s w hs)
   generalize Sp.allB Sp.valC s.data.toList = c at K2 ⊢
   go_enter Tryz.func33, Tryz.ntmps33
   go_wp2_with fail
   refine K.out.mono ?_; rintro e w' ⟨rfl, hB⟩
   go_wp2_with fail
   refine (K2 _).out.mono ?_; rintro e w' ⟨rfl, rfl⟩
   go_wp2_with fail
   go_ret
   exact ⟨ret_bool (by simp), hB⟩
 ·have hd : decide ((s.size : Int) ≤ 200) = false := decide_eq_false (by omega)
  have hv : Sp.valB s.data.toList = false := by
   unfold Sp.valB; simp [h200]
  rw [hv]
  clear hl h200 hv
  go_enter Tryz.func33, Tryz.ntmps33
  go_wp2_with fail
  go_ret
  exact ⟨rfl, Below.refl _ _⟩
end Go.Proofs.YtemhokkfefidlaaGreatDoor.H
namespace Go.Proofs.YtemhokkfefidlaaGreatDoor.H
open Go.RowKit Go.Shelf Go.Lib

def mix (s : ByteArray) (k j : Nat) : UInt8 := if j < k then Sp.lowC (s.data.toList.getD j 0) else s.data.toList.getD j 0
theorem mix_succ_ne (s : ByteArray) (k j : Nat) (h : j ≠ k) : mix s (k + 1) j = mix s k j := by
 unfold mix
 by_cases h1 : j < k
 ·rw [if_pos h1, if_pos (by omega)]
 ·rw [if_neg h1, if_neg (by omega)]
theorem mix_succ_at (s : ByteArray) (k : Nat) : mix s (k + 1) k = Sp.lowC (s.data.toList.getD k 0) := by simp [mix]
def LowRow (s : ByteArray) (B : Nat) (w : World) (k : Nat) (wr : World) : Prop :=
 (∀ j, j < s.size → wr.cell? ⟨B, j, none⟩ = some (.int .u8 ((mix s k j).toNat : Int))) ∧ (∀ j, j < s.size → wr.frozen? ⟨B, j, none⟩ = false) ∧ Below B w wr ∧ B < wr.heap.size
theorem LowRow.put {s : ByteArray} {B : Nat} {w : World} {k : Nat} {wr : World} (h : LowRow s B w k wr) (hk : k < s.size) (v : Int) (hv : ((Sp.lowC (s.data.toList.getD k 0)).toNat : Int) = v) : LowRow s B w (k + 1) (wr.setCell ⟨B, k, none⟩ (.int .u8 v)) := by
 refine ⟨fun j hj => ?_, fun j hj => ?_, h.2.2.1.setCell (Nat.le_refl _) _, ?_⟩
 ·by_cases e : j = k
  ·subst e
   rw [mix_succ_at, hv]
   exact World.cell?_setCell_same' _ _ _ (by rw [h.1 j hj]; rfl)
  ·rw [mix_succ_ne _ _ _ e, ← h.1 j hj]
   exact World.cell?_setCell_other _ _ _ _ (by intro e'; injection e' with _ e2; exact e e2.symm)
 ·rw [World.frozen?_setCell]; exact h.2.1 j hj
 ·simpa [World.setCell] using h.2.2.2
end Go.Proofs.YtemhokkfefidlaaGreatDoor.H
namespace Go.Proofs.YtemhokkfefidlaaGreatDoor.H
open Go.RowKit Go.Shelf Go.Lib

theorem index_split (l : List UInt8) (c : UInt8) :
  (indexByte l c = -1 ∧ c ∉ l) ∨ ∃ k : Nat, indexByte l c = (k : Int) ∧ k < l.length ∧ l.take k = l.takeWhile (· != c) ∧ l.drop (k + 1) = (l.dropWhile (· != c)).drop 1 ∧ c ∈ l := by
 induction l with
 | nil => exact .inl ⟨rfl, by simp⟩
 | cons b l ih =>
  by_cases e : b = c
  ·subst e
   exact .inr ⟨0, by unfold indexByte; simp, by simp, by simp [List.takeWhile], by simp [List.dropWhile], by simp⟩
  ·have e1 : (b == c) = false := by simpa using e
   have e2 : (b != c) = true := by simpa using e
   rcases ih with ⟨h1, h2⟩ | ⟨k, h1, h2, h3, h4, h5⟩
   ·refine .inl ⟨?_, ?_⟩
    ·unfold indexByte; rw [h1]; simp [e1]
    ·rw [List.mem_cons, not_or]; exact ⟨fun h => e h.symm, h2⟩
   ·refine .inr ⟨k + 1, ?_, by rw [List.length_cons]; omega, ?_, ?_, by simp [h5]⟩
    ·unfold indexByte
     rw [if_neg (by simp [e1]), h1, if_neg (by simp)]
     simp
    ·rw [List.take_succ_cons, h3, List.takeWhile_cons, e2]; rfl
    ·rw [List.drop_succ_cons, h4, List.dropWhile_cons, e2]; rfl

theorem ba_ext {a b : ByteArray} (h : a.data.toList = b.data.toList) : a = b := by
 cases a; cases b; congr 1; exact Array.toList_inj.mp h
end Go.Proofs.YtemhokkfefidlaaGreatDoor.H
