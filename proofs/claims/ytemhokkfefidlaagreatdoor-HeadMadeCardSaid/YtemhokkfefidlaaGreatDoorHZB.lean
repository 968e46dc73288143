/- Several parts together: The contract of strings.Cut at a separator of one byte; The hand contracts of package field in the form of the printed ones: plain functions and what the Go functions do; The contract of field.Drop: fields whose names match none of some; The hand contracts of strings.Cut in the form of the printed ones; What the world holds of the library's tables (the powers of ten), and of one of its variables (a number): kept by whatever leaves elder blocks alone; out of the row's own condition; The contract of num.Text at base ten, in the form of the printed ones; The contracts of strings.CutPrefix, strings.Join, strings.Split and strings.SplitN in the form of the printed ones; The contract of head.Right's look at the fields: slices.ContainsFunc with the function of a field that may not be. -/
import Derived.Test.YtemhokkfefidlaaGreatDoorHZA
import Derived.Deep.QuietTactic
import Derived.BigQuiet
import Derived.OwnWalk
import Derived.Test.YtemhokkfefidlaaGreatDoorPx0
import Derived.Test.YtemhokkfefidlaaGreatDoorWWords
import Derived.Deep.RegionHeld3
import Derived.Deep.RegionWith
import Derived.Test.YtemhokkfefidlaaGreatDoorProg
import Derived.Lib.LaidTab
import Derived.Lib.ItoaMem
import Derived.Stop.LaidErr
import Derived.KernelRfl
import Derived.Below
import Derived.Shelf.Vars
import Derived.Test.YtemhokkfefidlaaGreatDoorShelf
set_option linter.unusedVariables false
set_option linter.unusedSimpArgs false
namespace Go.Proofs.YtemhokkfefidlaaGreatDoor.H
open Go.RowKit Go.Shelf Go.Lib

theorem cutlib_any (s : ByteArray) (c : UInt8) (w : World) (hs : s.size ≤ 9223372036854775806) :
  Calls Tryz.prog 79 #[.string s, .string ⟨#[c]⟩] w fun e w' => e = .returned (.tuple #[.string ⟨(Sp.cutL c s.data.toList).toArray⟩, .string ⟨(Sp.cutR c s.data.toList).toArray⟩, .bool (Sp.cutIs c s.data.toList)]) ∧ ∃ n, w' = w.drewN n := by
 have hI := Tryz.stringslite_Index_one s c w
 have hl : s.data.toList.length = s.size := by simp
 rcases index_split s.data.toList c with ⟨h1, h2⟩ | ⟨k, h1, h2, h3, h4, h5⟩
 ·rw [h1] at hI
  have e1 : Sp.cutL c s.data.toList = s.data.toList := by unfold Sp.cutL; rw [if_neg h2]
  have e2 : Sp.cutR c s.data.toList = [] := by unfold Sp.cutR; rw [if_neg h2]
  have e3 : Sp.cutIs c s.data.toList = false := by unfold Sp.cutIs; simpa using h2
  rw [e1, e2, e3]
  clear e1 e2 e3 h1 h2 hl
  have K := Lib.hid hI
  clear hI
  go_enter Tryz.func79, Tryz.ntmps79
  go_wp2_with fail
  refine K.out.mono ?_; rintro e w' ⟨rfl, rfl⟩
  go_wp2_with fail
  go_ret3
  exact ⟨by simp, 0, rfl⟩
 ·rw [h1] at hI
  rw [hl] at h2
  have e1 : (⟨(Sp.cutL c s.data.toList).toArray⟩ : ByteArray) = s.extract 0 k := by
   apply ba_ext
   rw [Lib.extract_data]
   unfold Sp.cutL; rw [if_pos h5, ← h3]
   simp
  have e2 : (⟨(Sp.cutR c s.data.toList).toArray⟩ : ByteArray) = s.extract (k + 1) s.size := by
   apply ba_ext
   rw [Lib.extract_to_end]
   unfold Sp.cutR; rw [if_pos h5, h4]
  have e3 : Sp.cutIs c s.data.toList = true := by unfold Sp.cutIs; simpa using h5
  rw [e1, e2, e3]
  clear e1 e2 e3 h1 h3 h4 h5 hl
  have K := Lib.hid hI
  clear hI
  have b1 : (0 : Int) ≤ (k : Int) := by omega
  have b2 : (k : Int) ≤ (s.size : Int) := by omega
  have b3 : (k : Int) + 1 ≤ (s.size : Int) := by omega
  have b4 : (0 : Int) ≤ (k : Int) + 1 := by omega
  go_enter Tryz.func79, Tryz.ntmps79
  go_wp2_with fail
  refine K.out.mono ?_; rintro e w' ⟨rfl, rfl⟩
  go_wp2_with fail
  go_quiet (fail)
  go_wp2_with fail
  go_ret3
  exact ⟨rfl, _, rfl⟩

theorem cut_any (s : ByteArray) (c : UInt8) (w : World) (hs : s.size ≤ 9223372036854775806) :
  Calls Tryz.prog 53 #[.string s, .string ⟨#[c]⟩] w fun e w' => e = .returned (.tuple #[.string ⟨(Sp.cutL c s.data.toList).toArray⟩, .string ⟨(Sp.cutR c s.data.toList).toArray⟩, .bool (Sp.cutIs c s.data.toList)]) ∧ ∃ n, w' = w.drewN n := by
 have K := Lib.hid (cutlib_any s c w hs)
 generalize (⟨(Sp.cutL c s.data.toList).toArray⟩ : ByteArray) = x at K ⊢
 generalize (⟨(Sp.cutR c s.data.toList).toArray⟩ : ByteArray) = y at K ⊢
 generalize Sp.cutIs c s.data.toList = z at K ⊢
 go_enter Tryz.func53, Tryz.ntmps53
 go_wp2_with fail
 refine K.out.mono ?_; rintro e w' ⟨rfl, n, rfl⟩
 go_wp2_with fail
 go_ret3
 exact ⟨rfl, _, rfl⟩
end Go.Proofs.YtemhokkfefidlaaGreatDoor.H
namespace Go.Proofs.YtemhokkfefidlaaGreatDoor.P
open Go.RowKit Go.Proofs.YtemhokkfefidlaaGreatDoorW.PrintWords Go.Proofs.YtemhokkfefidlaaGreatDoorW.PrintLast Go.Proofs.YtemhokkfefidlaaGreatDoorW.PrintMore

def field_Name.f (a0 : ByteArray) : Option Bool := if a0.size ≤ 9223372036854775806 then some (Sp.nameB a0.data.toList) else none
theorem field_Name.calls (a0 : ByteArray) (r : Bool) (w : World) (h : field_Name.f a0 = some r) :
  Calls Tryz.prog 32 #[.string a0] w fun e w' => e = .returned (.bool r) ∧ Drawn0 w w' := by
 unfold field_Name.f at h
 split at h
 ·injection h with h
  subst h
  exact (H.name_any a0 w (by omega)).mono fun e w' ⟨h1, h2⟩ => ⟨h1, h2 ▸ Drawn0.refl w⟩
 ·cases h
def field_Value.f (a0 : ByteArray) : Option Bool := if a0.size ≤ 9223372036854775806 then some (Sp.valB a0.data.toList) else none
theorem field_Value.calls (a0 : ByteArray) (r : Bool) (w : World) (h : field_Value.f a0 = some r) :
  Calls Tryz.prog 33 #[.string a0] w fun e w' => e = .returned (.bool r) ∧ Below w.heap.size w w' := by
 unfold field_Value.f at h
 split at h
 ·injection h with h
  subst h
  exact H.value_any a0 w (by omega)
 ·cases h
def field_Trim.f (a0 : ByteArray) : Option ByteArray := if a0.size ≤ 9223372036854775806 then some ⟨(Sp.trim a0.data.toList).toArray⟩ else none
theorem field_Trim.calls (a0 : ByteArray) (r : ByteArray) (w : World) (h : field_Trim.f a0 = some r) :
  Calls Tryz.prog 54 #[.string a0] w fun e w' => e = .returned (.string r) ∧ Below w.heap.size w w' := by
 unfold field_Trim.f at h
 split at h
 ·injection h with h
  subst h
  exact H.trim_any a0 w (by omega)
 ·cases h
end Go.Proofs.YtemhokkfefidlaaGreatDoor.P
namespace Go.Proofs.YtemhokkfefidlaaGreatDoor.H
open Go.RowKit Go.Shelf Go.Lib Go.Proofs.YtemhokkfefidlaaGreatDoorW.PrintWords

def Small (l : List ByteArray) : Prop := ∀ x ∈ l, x.size ≤ 9223372036854775807
theorem Small.at {l : List ByteArray} (h : Small l) (k : Nat) : (l.getD k ByteArray.empty).size ≤ 9223372036854775807 := by
 rw [List.getD_eq_getElem?_getD]
 cases e : l[k]? with
 | none => simp
 | some x => exact h x (List.mem_of_getElem? e)

end Go.Proofs.YtemhokkfefidlaaGreatDoor.H
namespace Go.Proofs.YtemhokkfefidlaaGreatDoor.P
open Go.RowKit Go.Proofs.YtemhokkfefidlaaGreatDoorW.PrintWords Go.Proofs.YtemhokkfefidlaaGreatDoorW.PrintLast Go.Proofs.YtemhokkfefidlaaGreatDoorW.PrintMore

def strings_Cut.f (a0 : ByteArray) (a1 : ByteArray) : Option (ByteArray × ByteArray × Bool) :=
 if a0.size ≤ 9223372036854775806 then
  match a1.data.toList with
  | [c] => some (⟨(Sp.cutL c a0.data.toList).toArray⟩, ⟨(Sp.cutR c a0.data.toList).toArray⟩, Sp.cutIs c a0.data.toList)
  | _ => none
 else none
theorem strings_Cut.calls (a0 : ByteArray) (a1 : ByteArray) (r1 : ByteArray) (r2 : ByteArray) (r3 : Bool) (w : World) (h : strings_Cut.f a0 a1 = some (r1, r2, r3)) :
  Calls Tryz.prog 53 #[.string a0, .string a1] w fun e w' => e = .returned (.tuple #[.string r1, .string r2, .bool r3]) ∧ Drawn0 w w' := by
 unfold strings_Cut.f at h
 split at h
 ·split at h
  ·rename_i c hc
   injection h with h
   injection h with h1 h
   injection h with h2 h3
   subst h1 h2 h3
   have e : a1 = ⟨#[c]⟩ := H.ba_ext (by rw [hc])
   subst e
   exact (H.cut_any a0 c w (by omega)).mono fun e w' ⟨h1, n, h2⟩ => ⟨h1, ⟨n, h2⟩⟩
  ·cases h
 ·cases h
end Go.Proofs.YtemhokkfefidlaaGreatDoor.P
namespace Go.Proofs.YtemhokkfefidlaaGreatDoor.H
open Go.RowKit
theorem tab_below {P : Program} {n : String} {g : Nat} {k : IntKind} {zs : List Int} {w w' : World} (hg : P.globalNamed n = some g) (h : Lib.TabIs P w n k zs) (hb : Below w.heap.size w w') : Lib.TabIs P w' n k zs := by
 unfold Lib.TabIs World.var? at h ⊢
 rw [hg] at h ⊢
 simp only [Option.bind_some] at h ⊢
 have hlt : g < w.heap.size := by
  rcases Nat.lt_or_ge g w.heap.size with h' | h'
  ·exact h'
  ·rw [Array.getElem?_eq_none h'] at h; cases h
 rw [hb.block g hlt]
 exact h
structure GlobOk (w : World) : Prop where
 tab : Lib.TabIs Tryz.prog w "internal/strconv.uint64pow10" .u64 Lib.pow10Tab
 max : ∃ m, w.cell? ⟨0, 0, none⟩ = some (.int .i64 m)
theorem GlobOk.below {w w' : World} (h : GlobOk w) (hb : Below w.heap.size w w') : GlobOk w' :=
 ⟨tab_below (g := 1) (by kernel_rfl) h.tab hb, by
  obtain ⟨m, hm⟩ := h.max
  refine ⟨m, ?_⟩
  have hlt := World.block_lt_of_cell? _ _ hm
  unfold World.cell? at hm ⊢
  rw [hb.block 0 hlt]
  exact hm⟩
theorem laidMet_drop {P : Program} {w : World} : ∀ (i : Nat) (l : List (String × DataW Unit)), laidMet P l w → laidMet P (l.drop i) w
 | 0, _, h => h
 | _ + 1, [], h => h
 | i + 1, _ :: l, h => laidMet_drop i l h.tail
theorem GlobOk.of_laid {w : World} {l : List (String × DataW Unit)} (i : Nat) (hsh : w.ShapedOpen Tryz.prog) (h : laidMet Tryz.prog l w) (hl : l[i]? = some ("internal/strconv.uint64pow10", Lib.tabData .u64 Lib.pow10Tab)) : GlobOk w := by
 have h2 := laidMet_drop i l h
 obtain ⟨hi, he⟩ := List.getElem?_eq_some_iff.1 hl
 rw [List.drop_eq_getElem_cons hi, he] at h2
 refine ⟨?_, Go.Proofs.cell_of_shapedOpen_int (P := Tryz.prog) (g := 0) (t := 3) (zero := #[.int .i64 0]) hsh (of_decide_eq_true (by kernel_rfl)) (by kernel_rfl) rfl (by kernel_rfl) (by kernel_rfl) Tryz.underlying3⟩
 exact Lib.tabIs_of_head (g := 1) (t := 123) (e := 111) (n := 20) (by kernel_rfl) (by kernel_rfl) (by kernel_rfl) (by kernel_rfl) (by kernel_rfl) (by kernel_rfl) h2
end Go.Proofs.YtemhokkfefidlaaGreatDoor.H
namespace Go.Proofs.YtemhokkfefidlaaGreatDoor.P
theorem glob_below {w w' : Go.World} (h : H.GlobOk w) (hb : Go.RowKit.Below w.heap.size w w') : H.GlobOk w' := h.below hb
end Go.Proofs.YtemhokkfefidlaaGreatDoor.P
namespace Go.Proofs.YtemhokkfefidlaaGreatDoor.H
open Go.RowKit Go.Shelf Go.Lib
theorem fits_any (n : Int) (w : World) : Calls Tryz.prog 55 #[.int .i64 n] w fun e w' => e = .returned (.bool (decide (0 ≤ n) && decide (n ≤ 9007199254740992))) ∧ w = w' := by
 by_cases h : 0 ≤ n
 ·have hb : decide (n ≥ 0) = true := decide_eq_true h
  go_enter Tryz.func55, Tryz.ntmps55
  go_wp2
  all_goals
   go_ret
   exact ⟨by simp [h], rfl⟩
 ·have hb : decide (n ≥ 0) = false := decide_eq_false h
  go_enter Tryz.func55, Tryz.ntmps55
  go_wp2
  all_goals
   go_ret
   exact ⟨by simp [h], rfl⟩
theorem below_grow (w : World) (k : Nat) (os : Array Obj) : Below w.heap.size w (Sort.grow (w.drewN k) os) :=
 ⟨rfl, rfl, rfl, by show w.heap.size ≤ (w.heap ++ os).size; rw [Array.size_append]; omega, fun j hj => by show (w.heap ++ os)[j]? = w.heap[j]?; exact Array.getElem?_append_left hj⟩
def text10 (n : Int) : ByteArray := if 0 ≤ n ∧ n ≤ 9007199254740992 then ⟨(Lib.itoa n).toArray⟩ else ⟨#[]⟩
theorem text10_any (n : Int) (w : World) (hG : GlobOk w) (h0 : -9223372036854775808 ≤ n) (h1 : n ≤ 9223372036854775807) : Calls Tryz.prog 29 #[.int .i64 n, .int .i64 10] w fun e w' => e = .returned (.string (text10 n)) ∧ Below w.heap.size w w' := by
 have K1 := Lib.hid (fits_any n w)
 by_cases hf : 0 ≤ n ∧ n ≤ 9007199254740992
 ·have e1 : (decide (0 ≤ n) && decide (n ≤ 9007199254740992)) = true := by simp [hf]
  rw [e1] at K1
  have e2 : text10 n = ⟨(Lib.itoa n).toArray⟩ := by unfold text10; rw [if_pos hf]
  rw [e2]
  have K2 := Lib.hid (Tryz.strconv_FormatInt_10 n h0 h1 w hG.tab)
  generalize (⟨(Lib.itoa n).toArray⟩ : ByteArray) = r at K2 ⊢
  clear e1 e2 hf hG
  go_enter Tryz.func29, Tryz.ntmps29
  go_wp2_with fail
  refine K1.out.mono ?_; rintro e w' ⟨rfl, rfl⟩
  go_wp2_with fail
  refine K2.out.mono ?_; rintro e w' ⟨rfl, hk⟩
  have HK := Lib.hid hk
  clear hk
  go_wp2_with fail
  go_ret
  refine ⟨rfl, ?_⟩
  obtain ⟨k, os, rfl⟩ := HK.out
  exact below_grow _ k os
 ·have e1 : (decide (0 ≤ n) && decide (n ≤ 9007199254740992)) = false := by
   rcases Classical.not_and_iff_not_or_not.1 hf with h | h <;> simp [h]
  rw [e1] at K1
  have e2 : text10 n = ⟨#[]⟩ := by unfold text10; rw [if_neg hf]
  rw [e2]
  clear e1 e2 hf hG
  go_enter Tryz.func29, Tryz.ntmps29
  go_wp2_with fail
  refine K1.out.mono ?_; rintro e w' ⟨rfl, rfl⟩
  go_wp2_with fail
  go_ret
  exact ⟨rfl, Below.refl _ _⟩
end Go.Proofs.YtemhokkfefidlaaGreatDoor.H
namespace Go.Proofs.YtemhokkfefidlaaGreatDoor.P
open Go.RowKit
def num_Text.f (a0 : Int) (a1 : Int) : Option ByteArray := if a1 = 10 then (if -9223372036854775808 ≤ a0 then if a0 ≤ 9223372036854775807 then some (H.text10 a0) else none else none) else none
theorem num_Text.calls (a0 : Int) (a1 : Int) (r : ByteArray) (w : World) (hG_ : H.GlobOk w) (h : num_Text.f a0 a1 = some r) :
  Calls Tryz.prog 29 #[.int .i64 a0, .int .i64 a1] w fun e w' => e = .returned (.string r) ∧ Below w.heap.size w w' := by
 unfold num_Text.f at h
 split at h
 ·rename_i e
  subst e
  split at h
  ·split at h
   ·injection h with h
    subst h
    exact H.text10_any a0 w hG_ (by assumption) (by assumption)
   ·cases h
  ·cases h
 ·cases h
end Go.Proofs.YtemhokkfefidlaaGreatDoor.P
namespace Go.Proofs.YtemhokkfefidlaaGreatDoor.P
open Go.RowKit Go.Shelf Go.Lib Go.Proofs.YtemhokkfefidlaaGreatDoorW.PrintWords Go.Proofs.YtemhokkfefidlaaGreatDoorW.PrintLast Go.Proofs.YtemhokkfefidlaaGreatDoorW.PrintMore
def strings_CutPrefix.f (a0 : ByteArray) (a1 : ByteArray) : Option (ByteArray × Bool) := some (⟨(Lib.trimPrefix a0.data.toList a1.data.toList).toArray⟩, Lib.hasPrefix a0.data.toList a1.data.toList)
theorem strings_CutPrefix.calls (a0 : ByteArray) (a1 : ByteArray) (r1 : ByteArray) (r2 : Bool) (w : World) (h : strings_CutPrefix.f a0 a1 = some (r1, r2)) :
  Calls Tryz.prog 77 #[.string a0, .string a1] w fun e w' => e = .returned (.tuple #[.string r1, .bool r2]) ∧ Drawn0 w w' := by
 unfold strings_CutPrefix.f at h
 injection h with h
 injection h with h1 h2
 subst h1 h2
 refine (Tryz.strings_CutPrefix a0 a1 w).mono ?_
 rintro e w' ⟨rfl, rfl⟩
 exact ⟨rfl, Drawn0.refl _⟩
def joinB (l : List ByteArray) (sep : ByteArray) : ByteArray := ⟨(Lib.join (l.map (·.data.toList)) sep.data.toList).toArray⟩
def strings_Join.f (l0 : List ByteArray) (a1 : ByteArray) : Option ByteArray := if l0.length ≤ 140737488355328 ∧ (joinB l0 a1).size ≤ 140737488355328 then some (joinB l0 a1) else none
theorem cells_of_row {w : World} {A : Option Addr} {l : List ByteArray} (h : Kd.C Kd.string w A l.length l) (hp : 0 < l.length) : ∃ bk o, A = some ⟨bk, o, none⟩ ∧ bk < w.heap.size ∧ ∀ (j : Nat) x, l[j]? = some x → w.cell? ⟨bk, o + j, none⟩ = some (.string x) := by
 obtain ⟨_, _, h3⟩ := h
 obtain ⟨ad, rfl, hc⟩ := h3 hp
 have g : ∀ (j : Nat) x, l[j]? = some x → w.cell? (ad.add j) = some (.string x) := fun j x hj => by
  obtain ⟨c, _, hk, hi⟩ := hc j x hj
  have hk' : c = [.string x] := hk
  subst hk'
  have := hi 0 _ rfl
  have e : j * Kd.string.sz + 0 = j := by show j * 1 + 0 = j; omega
  rwa [e] at this
 have h0 := g 0 l[0] (List.getElem?_eq_getElem hp)
 obtain ⟨b, o, sp⟩ := ad
 cases sp with
 | some p =>
  exfalso
  have e : (⟨b, o, some p⟩ : Addr).add 0 = ⟨b, o, some p⟩ := rfl
  rw [e] at h0
  unfold World.cell? at h0
  split at h0
  ·simp at h0
  ·cases h0
 | none =>
  have e : ∀ j : Nat, (⟨b, o, none⟩ : Addr).add j = ⟨b, o + j, none⟩ := fun j => by unfold Addr.add; split <;> simp_all
  refine ⟨b, o, rfl, World.block_lt_of_cell? _ _ h0, fun j x hj => ?_⟩
  rw [← e]
  exact g j x hj
theorem strings_Join.calls (A0 : Option Addr) (c0 : Nat) (l0 : List ByteArray) (a1 : ByteArray) (r : ByteArray) (w : World) (hr0 : Kd.C Kd.string w A0 l0.length l0) (hc0 : l0.length ≤ c0) (h : strings_Join.f l0 a1 = some r) :
  Calls Tryz.prog 30 #[.slice A0 l0.length c0, .string a1] w fun e w' => e = .returned (.string r) ∧ Below w.heap.size w w' := by
 unfold strings_Join.f at h
 split at h
 case isFalse => cases h
 case isTrue hs =>
 injection h with h
 subst h
 by_cases hp : 0 < l0.length
 ·obtain ⟨bk, o, rfl, hb, hcell⟩ := cells_of_row hr0 hp
  refine (Tryz.strings_Join bk o c0 l0 a1 w hcell hb hs.1 hc0 (by have := hs.2; unfold joinB at this; rwa [show ∀ l : List UInt8, (⟨l.toArray⟩ : ByteArray).size = l.length from fun l => by show l.toArray.size = _; rw [List.size_toArray]] at this)).mono ?_
  rintro e w' ⟨rfl, hb⟩
  exact ⟨rfl, hb⟩
 ·obtain rfl : l0 = [] := List.eq_nil_of_length_eq_zero (by omega)
  refine (Tryz.strings_Join_none A0 c0 a1 w).mono ?_
  rintro e w' ⟨rfl, rfl⟩
  exact ⟨rfl, Below.refl _ _⟩
theorem own_row (w : World) (l : List ByteArray) (N : Nat) (hl : l.length ≤ N) (hN : N ≤ maxLen) :
  Kd.R Kd.string 9 (w.alloc (.cells (Lib.cellsOf l N) 9)) w.heap.size (fun _ => True) (.slice (some ⟨w.heap.size, 0, none⟩) l.length N) l := by
 refine Kd.R_of_own ⟨?_, .inr ⟨w.heap.size, N, Lib.cellsOf l N, rfl, Nat.le_refl _, heap_alloc_new w _, hl, hN, ?_, ?_⟩⟩ (fun _ _ => trivial)
 ·rw [encs_length]; omega
 ·rw [Lib.cellsOf_size hl]; omega
 ·unfold Lib.cellsOf encs
  rw [List.toList_toArray, Nat.mul_one, List.take_append_of_le_length (by rw [List.length_map]; exact Nat.le_refl _), List.take_of_length_le (by rw [List.length_map]; exact Nat.le_refl _)]
def strings_Split.f (a0 : ByteArray) (a1 : ByteArray) : Option (List ByteArray) := if a0.size ≤ 4294967280 ∧ 1 ≤ a1.size then some (Lib.splitB a1 0 (Lib.countB a0 a1) a0) else none
theorem strings_Split.calls (a0 : ByteArray) (a1 : ByteArray) (r : List ByteArray) (w : World) (hG_ : H.GlobOk w) (h : strings_Split.f a0 a1 = some r) :
  Calls Tryz.prog 24 #[.string a0, .string a1] w fun e w' => ∃ v0_ : Value, e = .returned (v0_) ∧ Kd.R Kd.string 9 w' w.heap.size (fun _ => True) v0_ r ∧ Below w.heap.size w w' := by
 unfold strings_Split.f at h
 split at h
 case isFalse => cases h
 case isTrue hs =>
 injection h with h
 subst h
 obtain ⟨m, hm⟩ := hG_.max
 refine (Tryz.strings_Split a0 a1 m w (by omega) hm hs.2).mono ?_
 rintro e w' ⟨rfl, rfl⟩
 have hl := Lib.splitB_all a1 hs.2 0 _ a0 rfl
 have hle := Lib.countB_le a1 hs.2 a0.size a0 (Nat.le_refl _)
 have hr := own_row w (Lib.splitB a1 0 (Lib.countB a0 a1) a0) (Lib.countB a0 a1 + 1) (by omega) (by unfold maxLen; omega)
 rw [hl] at hr
 have e2 : Lib.cellsOf (Lib.splitB a1 0 (Lib.countB a0 a1) a0) (Lib.countB a0 a1 + 1) = ((Lib.splitB a1 0 (Lib.countB a0 a1) a0).map Value.string).toArray := by rw [← hl]; exact Lib.cellsOf_full _
 rw [e2] at hr
 exact ⟨_, rfl, hr, below_alloc (Below.refl _ _) _⟩
def strings_SplitN.f (a0 : ByteArray) (a1 : ByteArray) (a2 : Int) : Option (List ByteArray) := if a0.size ≤ 4294967280 ∧ 1 ≤ a1.size ∧ 1 ≤ a2 ∧ a2 ≤ 4294967280 then some (Lib.splitB a1 0 (min a2.toNat (a0.size + 1) - 1) a0) else none
theorem strings_SplitN.calls (a0 : ByteArray) (a1 : ByteArray) (a2 : Int) (r : List ByteArray) (w : World) (hG_ : H.GlobOk w) (h : strings_SplitN.f a0 a1 a2 = some r) :
  Calls Tryz.prog 25 #[.string a0, .string a1, .int .i64 a2] w fun e w' => ∃ v0_ : Value, e = .returned (v0_) ∧ Kd.R Kd.string 9 w' w.heap.size (fun _ => True) v0_ r ∧ Below w.heap.size w w' := by
 unfold strings_SplitN.f at h
 split at h
 case isFalse => cases h
 case isTrue hs =>
 injection h with h
 subst h
 obtain ⟨n, rfl⟩ : ∃ n : Nat, a2 = n := ⟨a2.toNat, by omega⟩
 rw [Int.toNat_natCast]
 obtain ⟨m, hm⟩ := hG_.max
 refine (Tryz.strings_SplitN a0 a1 n m w (by omega) hm hs.2.1 (by omega) (by omega)).mono ?_
 rintro e w' ⟨rfl, rfl⟩
 have hl := Lib.splitB_length_le a1 0 (min n (a0.size + 1) - 1) a0
 exact ⟨_, rfl, own_row w _ _ (by omega) (by unfold maxLen; omega), below_alloc (Below.refl _ _) _⟩
end Go.Proofs.YtemhokkfefidlaaGreatDoor.P
namespace Go.Proofs.YtemhokkfefidlaaGreatDoor.P
open Go.RowKit Go.Shelf Go.Lib Go.Proofs.YtemhokkfefidlaaGreatDoorW.PrintWords Go.Proofs.YtemhokkfefidlaaGreatDoorW.PrintLast Go.Proofs.YtemhokkfefidlaaGreatDoorW.PrintMore
open H (ret_bool ret_int)
def badF (x : S37) : Bool := !Sp.nameB x.f0.data.toList || !Sp.valB x.f1.data.toList
theorem odd_any (n v : ByteArray) (w : World) (hn : n.size ≤ 9223372036854775807) (hv : v.size ≤ 9223372036854775807) :
  Calls Tryz.prog 31 #[.agg #[.string n, .string v]] w fun e w' => e = .returned (.bool (!Sp.nameB n.data.toList || !Sp.valB v.data.toList)) ∧ Below w.heap.size w w' := by
 have KN := fun W => Lib.hid (H.name_any n W hn)
 have KV := fun W => Lib.hid (H.value_any v W hv)
 generalize Sp.nameB n.data.toList = b at KN ⊢
 generalize Sp.valB v.data.toList = c at KV ⊢
 have HB0 := Lib.hid (Below.refl w.heap.size w)
 cases b
 ·go_enter Tryz.func31, Tryz.ntmps31
  go_wp2_with fail
  refine (KN _).out.mono ?_; rintro e w' ⟨rfl, rfl⟩
  go_wp2_with fail
  go_ret
  exact ⟨rfl, below_alloc HB0.out _⟩
 ·go_enter Tryz.func31, Tryz.ntmps31
  go_wp2_with fail
  refine (KN _).out.mono ?_; rintro e w' ⟨rfl, rfl⟩
  go_wp2_with fail
  refine (KV _).out.mono ?_; rintro e w' ⟨rfl, hB⟩
  go_wp2_with fail
  go_ret
  exact ⟨ret_bool (by simp), (below_alloc HB0.out _).trans (hB.mono (by simp))⟩
def idxQ {α : Type} (p : α → Bool) (l : List α) : Int := match l.findIdx? p with | some k => (k : Int) | none => -1
theorem idxQ_at {α : Type} (d : α) (p : α → Bool) (l : List α) (k : Nat) (hk : k < l.length) (h : ∀ j, j < k → p (l.getD j d) = false) (hp : p (l.getD k d) = true) : idxQ p l = k := by
 have e : l.findIdx? p = some k := by
  rw [List.findIdx?_eq_some_iff_getElem]
  refine ⟨hk, ?_, fun j hj => ?_⟩
  ·rw [List.getD_eq_getElem?_getD, List.getElem?_eq_getElem hk] at hp
   exact hp
  ·have := h j hj
   rw [List.getD_eq_getElem?_getD, List.getElem?_eq_getElem (by omega)] at this
   simpa using this
 unfold idxQ
 rw [e]
theorem idxQ_none {α : Type} (d : α) (p : α → Bool) (l : List α) (h : ∀ j, j < l.length → p (l.getD j d) = false) : idxQ p l = -1 := by
 have e : l.findIdx? p = none := by
  rw [List.findIdx?_eq_none_iff]
  intro x hx
  obtain ⟨j, hj, rfl⟩ := List.getElem_of_mem hx
  have := h j hj
  rw [List.getD_eq_getElem?_getD, List.getElem?_eq_getElem hj] at this
  exact this
 unfold idxQ
 rw [e]
theorem idxQ_any {α : Type} (p : α → Bool) (l : List α) : decide (0 ≤ idxQ p l) = l.any p := by
 unfold idxQ
 cases e : l.findIdx? p with
 | none =>
  rw [List.findIdx?_eq_none_iff] at e
  have : l.any p = false := by rw [List.any_eq_false]; intro x hx; rw [e x hx]; exact Bool.false_ne_true
  rw [this]; rfl
 | some k =>
  rw [List.findIdx?_eq_some_iff_getElem] at e
  obtain ⟨hk, hp, _⟩ := e
  have : l.any p = true := by rw [List.any_eq_true]; exact ⟨_, List.getElem_mem hk, hp⟩
  rw [this]
  simp
def smallF (l : List S37) : Bool := l.all fun x => decide (x.f0.size ≤ 9223372036854775806) && decide (x.f1.size ≤ 9223372036854775806)
theorem smallF_at {l : List S37} (h : smallF l = true) (k : Nat) (hk : k < l.length) : (l.getD k z37).f0.size ≤ 9223372036854775807 ∧ (l.getD k z37).f1.size ≤ 9223372036854775807 := by
 unfold smallF at h
 rw [List.all_eq_true] at h
 rw [List.getD_eq_getElem?_getD, List.getElem?_eq_getElem hk]
 have := h _ (List.getElem_mem hk)
 simp only [Bool.and_eq_true, decide_eq_true_eq] at this
 simp only [Option.getD_some]
 omega
set_option maxHeartbeats 1600000 in
theorem idxodd_any (l : List S37) (A : Option Addr) (c : Nat) (w : World) (hl : smallF l = true) (hn : l.length ≤ 9223372036854775807)
  (hr : Kd.C k37 w A l.length l) :
  Calls Tryz.prog 65 #[.slice A l.length c, .func (.func 31) #[] #[]] w fun e w' => e = .returned (.int .i64 (idxQ badF l)) ∧ Below w.heap.size w w' := by
 have HR := Lib.hid hr
 have HL := Lib.hid hl
 clear hr hl
 go_enter Tryz.func65, Tryz.ntmps65
 go_wp2
 go_loopw [5, 8] (fun _ i wr => ∃ k : Nat, k ≤ l.length ∧ i = .int .i64 k ∧ Hid (∀ j, j < k → badF (l.getD j z37) = false) ∧ Hid (Below w.heap.size w wr)) (fun _ i _ => l.length - (RowKit.intOf i).toNat)
 case atStart => exact ⟨0, Nat.zero_le _, rfl, Lib.hid (fun j hj => by omega), Lib.hid (Below.refl _ _)⟩
 case round =>
  obtain ⟨k, hk, rfl, hp, hB⟩ := hrel
  by_cases hlt : k < l.length
  ·obtain ⟨ad, rfl, hx0, hx1⟩ := at_T37 HR.out (k : Int) (by omega) (by omega)
   replace hx0 := (hB.out.cell (World.block_lt_of_cell? w _ hx0)).trans hx0
   replace hx1 := (hB.out.cell (World.block_lt_of_cell? w _ hx1)).trans hx1
   rw [Int.toNat_natCast] at hx0 hx1
   have hx : rd_T37 l (k : Int) = l.getD k z37 := by simp [rd_T37]
   rw [hx] at hx0 hx1
   clear hx
   obtain ⟨x, hx⟩ : ∃ x, x = l.getD k z37 := ⟨_, rfl⟩
   rw [← hx] at hx0 hx1
   have hxs := smallF_at HL.out k hlt
   rw [← hx] at hxs
   have HX := Lib.hid hx
   clear hx
   have K := Lib.hid (odd_any x.f0 x.f1 wr hxs.1 hxs.2)
   have hb : badF x = (!Sp.nameB x.f0.data.toList || !Sp.valB x.f1.data.toList) := rfl
   rw [← hb] at K
   clear hb hxs
   cases hv : badF x with
   | true =>
    rw [hv] at K
    have HV := Lib.hid hv
    clear hv
    go_wp2_with fail
    refine K.out.mono ?_; rintro e w' ⟨rfl, hB2⟩
    go_wp2_with fail
    go_ret
    exact ⟨ret_int (idxQ_at z37 _ _ k hlt hp.out (by rw [← HX.out]; exact HV.out)).symm, hB.out.trans (hB2.mono hB.out.size)⟩
   | false =>
    rw [hv] at K
    have HV := Lib.hid hv
    clear hv
    go_wp2_with fail
    refine K.out.mono ?_; rintro e w' ⟨rfl, hB2⟩
    go_wp2_with fail
    go_roundw
    case rel => exact ⟨k + 1, by omega, by go_num, Lib.hid (fun j hj => by
     by_cases e : j = k
     ·subst e; rw [← HX.out]; exact HV.out
     ·exact hp.out j (by omega)), Lib.hid (hB.out.trans (hB2.mono hB.out.size))⟩
    case measure => simp [RowKit.intOf]; omega
  ·go_wp2
   go_ret
   exact ⟨ret_int (idxQ_none z37 _ _ (fun j hj => hp.out j (by omega))).symm, hB.out⟩
theorem anyodd_any (l : List S37) (A : Option Addr) (c : Nat) (w : World) (hl : smallF l = true) (hn : l.length ≤ 9223372036854775807)
  (hr : Kd.C k37 w A l.length l) :
  Calls Tryz.prog 34 #[.slice A l.length c, .func (.func 31) #[] #[]] w fun e w' => e = .returned (.bool (l.any badF)) ∧ Below w.heap.size w w' := by
 rw [← idxQ_any]
 have K := Lib.hid (idxodd_any l A c w hl hn hr)
 generalize idxQ badF l = r at K ⊢
 clear hr hl
 go_enter Tryz.func34, Tryz.ntmps34
 go_wp2_with fail
 refine K.out.mono ?_; rintro e w' ⟨rfl, hB⟩
 go_wp2_with fail
 go_ret
 exact ⟨rfl, hB⟩
end Go.Proofs.YtemhokkfefidlaaGreatDoor.P
