/- Several parts together: The hand contracts of package field in the form of the printed ones: plain functions and what the Go functions do; The contract of field.Items in the printed form; The hand contracts of strings.Cut and field.Drop in the form of the printed ones; What the world holds of the library's tables (the powers of ten), and of one of its variables (a number): kept by whatever leaves elder blocks alone; out of the row's own condition; The contract of num.Text at base ten, in the form of the printed ones; The contracts of strings.CutPrefix, strings.Join, strings.Split and strings.SplitN in the form of the printed ones; The contract of head.Right's look at the fields: slices.ContainsFunc with the function of a field that may not be. -/
import Derived.Test.YtapeodbgobkjeaaGreatDoorPx0
import Derived.Test.YtapeodbgobkjeaaGreatDoorHZA
import Derived.Test.YtapeodbgobkjeaaGreatDoorProg
import Derived.Lib.LaidTab
import Derived.Lib.ItoaMem
import Derived.Stop.LaidErr
import Derived.KernelRfl
import Derived.Below
import Derived.Shelf.Vars
import Derived.Test.YtapeodbgobkjeaaGreatDoorShelf
import Derived.Deep.RegionWith
set_option linter.unusedVariables false
set_option linter.unusedSimpArgs false
namespace Go.Proofs.YtapeodbgobkjeaaGreatDoor.P
open Go.RowKit Go.Proofs.YtapeodbgobkjeaaGreatDoorW.PrintWords Go.Proofs.YtapeodbgobkjeaaGreatDoorW.PrintLast Go.Proofs.YtapeodbgobkjeaaGreatDoorW.PrintMore

def field_Name.f (a0 : ByteArray) : Option Bool := if a0.size ≤ 9223372036854775806 then some (Sp.nameB a0.data.toList) else none
theorem field_Name.calls (a0 : ByteArray) (r : Bool) (w : World) (h : field_Name.f a0 = some r) :
  Calls Tryz.prog 66 #[.string a0] w fun e w' => e = .returned (.bool r) ∧ Drawn0 w w' := by
 unfold field_Name.f at h
 split at h
 ·injection h with h
  subst h
  exact (H.name_any a0 w (by omega)).mono fun e w' ⟨h1, h2⟩ => ⟨h1, h2 ▸ Drawn0.refl w⟩
 ·cases h
def field_Value.f (a0 : ByteArray) : Option Bool := if a0.size ≤ 9223372036854775806 then some (Sp.valB a0.data.toList) else none
theorem field_Value.calls (a0 : ByteArray) (r : Bool) (w : World) (h : field_Value.f a0 = some r) :
  Calls Tryz.prog 67 #[.string a0] w fun e w' => e = .returned (.bool r) ∧ Below w.heap.size w w' := by
 unfold field_Value.f at h
 split at h
 ·injection h with h
  subst h
  exact H.value_any a0 w (by omega)
 ·cases h
def field_Trim.f (a0 : ByteArray) : Option ByteArray := if a0.size ≤ 9223372036854775806 then some ⟨(Sp.trim a0.data.toList).toArray⟩ else none
theorem field_Trim.calls (a0 : ByteArray) (r : ByteArray) (w : World) (h : field_Trim.f a0 = some r) :
  Calls Tryz.prog 92 #[.string a0] w fun e w' => e = .returned (.string r) ∧ Below w.heap.size w w' := by
 unfold field_Trim.f at h
 split at h
 ·injection h with h
  subst h
  exact H.trim_any a0 w (by omega)
 ·cases h
def field_Lower.f (a0 : ByteArray) : Option ByteArray := if a0.size ≤ 9223372036854775806 then some ⟨(Sp.lower a0.data.toList).toArray⟩ else none
theorem field_Lower.calls (a0 : ByteArray) (r : ByteArray) (w : World) (h : field_Lower.f a0 = some r) :
  Calls Tryz.prog 55 #[.string a0] w fun e w' => e = .returned (.string r) ∧ Below w.heap.size w w' := by
 unfold field_Lower.f at h
 split at h
 ·injection h with h
  subst h
  exact H.lower_any a0 w (by omega)
 ·cases h
end Go.Proofs.YtapeodbgobkjeaaGreatDoor.P
namespace Go.Proofs.YtapeodbgobkjeaaGreatDoor.P
open Go.RowKit Go.Shelf Go.Proofs.YtapeodbgobkjeaaGreatDoorW.PrintWords Go.Proofs.YtapeodbgobkjeaaGreatDoorW.PrintLast Go.Proofs.YtapeodbgobkjeaaGreatDoorW.PrintMore
attribute [local go_sem] Oper.semAt_some
def itemsB (s : ByteArray) : List ByteArray := (Sp.items s.data.toList).map H.mkB
structure ItemAt (s : ByteArray) (h : Nat) (w : World) (j : Nat) (W : World) : Prop where
 r : ∃ v, W.heap[h]? = some (.cells #[v] 57 (0, 0)) ∧ W.ownsRow (h + 10) 9 1 v ((itemsB s).take j).length (encs Value.string ((itemsB s).take j))
 b : Below h w W

end Go.Proofs.YtapeodbgobkjeaaGreatDoor.P
namespace Go.Proofs.YtapeodbgobkjeaaGreatDoor.P
open Go.RowKit Go.Proofs.YtapeodbgobkjeaaGreatDoorW.PrintWords Go.Proofs.YtapeodbgobkjeaaGreatDoorW.PrintLast Go.Proofs.YtapeodbgobkjeaaGreatDoorW.PrintMore

def strings_Cut.f (a0 : ByteArray) (a1 : ByteArray) : Option (ByteArray × ByteArray × Bool) :=
 if a0.size ≤ 9223372036854775806 then
  match a1.data.toList with
  | [c] => some (⟨(Sp.cutL c a0.data.toList).toArray⟩, ⟨(Sp.cutR c a0.data.toList).toArray⟩, Sp.cutIs c a0.data.toList)
  | _ => none
 else none
theorem strings_Cut.calls (a0 : ByteArray) (a1 : ByteArray) (r1 : ByteArray) (r2 : ByteArray) (r3 : Bool) (w : World) (h : strings_Cut.f a0 a1 = some (r1, r2, r3)) :
  Calls Tryz.prog 160 #[.string a0, .string a1] w fun e w' => e = .returned (.tuple #[.string r1, .string r2, .bool r3]) ∧ Drawn0 w w' := by
 unfold strings_Cut.f at h
 split at h
 ·split at h
  ·rename_i c hc
   injection h with h
   injection h with h1 h
   injection h with h2 h3
   subst h1 h2 h3
   have e : a1 = ⟨#[c]⟩ := H.ba_ext (by rw [hc])
   subst e
   exact (H.cut_any a0 c w (by omega)).mono fun e w' ⟨h1, n, h2⟩ => ⟨h1, ⟨n, h2⟩⟩
  ·cases h
 ·cases h

def smallB (l : List ByteArray) : Bool := l.all fun x => decide (x.size ≤ 9223372036854775806)
theorem smallB_small {l : List ByteArray} (h : smallB l = true) : H.Small l := fun x hx => by
 unfold smallB at h
 rw [List.all_eq_true] at h
 have := of_decide_eq_true (h x hx)
 omega
def keeps (l1 : List ByteArray) (x : S40) : Bool := !(l1.any (H.sameName x.f0))
def field_Drop.f (l0 : List S40) (l1 : List ByteArray) : Option (List S40) :=
 if smallB (l0.map (·.f0)) && (smallB l1 && (decide (l0.length < 4398046511104) && decide (l1.length < 4398046511104))) then some (l0.filter (keeps l1)) else none

theorem take_filter (l : List S40) (p : S40 → Bool) (k : Nat) (h : k < l.length) : (l.take (k + 1)).filter p = (l.take k).filter p ++ (if p (l.getD k z40) then [l.getD k z40] else []) := by
 rw [List.take_succ_eq_append_getElem h, List.filter_append, List.getD_eq_getElem?_getD, List.getElem?_eq_getElem h]
 simp only [List.filter_cons, List.filter_nil, Option.getD_some]
theorem two_cells (W : World) (c0 c1 : Value) (t : Nat) : (W.alloc (.cells #[c0, c1] t)).cell? ⟨W.heap.size, 0, none⟩ = some c0 := by
 have h := heap_alloc_new W (.cells #[c0, c1] t)
 unfold World.cell?
 rw [h]
 rfl
theorem filter_len (l : List S40) (p : S40 → Bool) (k : Nat) (hl : l.length < 4398046511104) : ((l.take k).filter p).length < 4398046511104 := by
 have h1 := List.length_filter_le p (l.take k)
 have h2 : (l.take k).length ≤ l.length := by simp [List.length_take]; omega
 omega

set_option maxHeartbeats 3200000 in
set_option maxRecDepth 100000 in
theorem field_Drop.calls (A0 : Option Addr) (c0 : Nat) (l0 : List (S40)) (A1 : Option Addr) (c1 : Nat) (l1 : List ByteArray) (r : List (S40)) (w : World) (hr0 : Kd.C k40 w A0 l0.length l0) (hc0 : l0.length ≤ c0) (hr1 : Kd.C Kd.string w A1 l1.length l1) (hc1 : l1.length ≤ c1) (h : field_Drop.f l0 l1 = some r) :
  Calls Tryz.prog 33 #[.slice A0 l0.length c0, .slice A1 l1.length c1] w fun e w' => ∃ v0_ : Value, e = .returned (v0_) ∧ Kd.R k40 40 w' w.heap.size (fun _ => True) v0_ r ∧ Below w.heap.size w w' := by
 unfold field_Drop.f at h
 split at h
 case isFalse => cases h
 case isTrue hs =>
 injection h with h
 subst h
 simp only [Bool.and_eq_true, decide_eq_true_eq] at hs
 obtain ⟨hs0, hs1, hl0, hl1⟩ := hs
 have HS0 := Lib.hid (smallB_small hs0)
 have HS1 := Lib.hid (smallB_small hs1)
 have HR0 := Lib.hid hr0
 have HR1 := Lib.hid hr1
 clear hr0 hr1 hs0 hs1
 have hu := Tryz.underlying40
 go_enter Tryz.func33, Tryz.ntmps33
 go_wp2
 go_loopw [4, 6, 9] (fun v _ i wr => ∃ k : Nat, k ≤ l0.length ∧ i = .int .i64 k ∧ Hid (Kd.R k40 40 wr w.heap.size (fun _ => True) v ((l0.take k).filter (keeps l1))) ∧ Hid (Below w.heap.size w wr)) (fun _ _ i _ => l0.length - (RowKit.intOf i).toNat)
 case atStart => exact ⟨0, Nat.zero_le _, rfl, Lib.hid (Kd.R_nil _ _ _ _ _), Lib.hid (Below.refl _ _)⟩
 case round =>
  obtain ⟨k, hk, rfl, hO, hB⟩ := hrel
  by_cases hlt : k < l0.length
  ·obtain ⟨ad, rfl, hx0, hx1⟩ := at_T40 HR0.out (k : Int) (by omega) (by omega)
   replace hx0 := (hB.out.cell (World.block_lt_of_cell? w _ hx0)).trans hx0
   replace hx1 := (hB.out.cell (World.block_lt_of_cell? w _ hx1)).trans hx1
   rw [Int.toNat_natCast] at hx0 hx1
   have hx : rd_T40 l0 (k : Int) = l0.getD k z40 := by simp [rd_T40]
   rw [hx] at hx0 hx1
   clear hx
   obtain ⟨x, hx⟩ : ∃ x, x = l0.getD k z40 := ⟨_, rfl⟩
   rw [← hx] at hx0 hx1
   have hxs : x.f0.size ≤ 9223372036854775807 := by
    rw [hx, List.getD_eq_getElem?_getD, List.getElem?_eq_getElem hlt]
    exact HS0.out _ (List.mem_map.mpr ⟨_, List.getElem_mem _, rfl⟩)
   have HX := Lib.hid hx
   clear hx
   have hb1 := below_alloc hB.out (.cells #[.string x.f0, .string x.f1] 40)
   have K := Lib.hid (H.has_any l1 x.f0 A1 c1 (wr.alloc (.cells #[.string x.f0, .string x.f1] 40)) wr.heap.size (by simp) HS1.out hxs (by omega) (Kd.C_below HR1.out hb1) (two_cells _ _ _ _))
   have HB1 := Lib.hid hb1
   clear hb1
   have hp : keeps l1 x = !(l1.any (H.sameName x.f0)) := rfl
   have hcells : ∀ w', Below (wr.heap.size + 1) (wr.alloc (.cells #[.string x.f0, .string x.f1] 40)) w' → w'.cell? ⟨wr.heap.size, 0, none⟩ = some (.string x.f0) ∧ w'.cell? ⟨wr.heap.size, 1, none⟩ = some (.string x.f1) := fun w' hb => by
    have g := heap_alloc_new wr (.cells #[.string x.f0, .string x.f1] 40)
    refine ⟨(hb.cell (p := ⟨wr.heap.size, 0, none⟩) (by simp)).trans ?_, (hb.cell (p := ⟨wr.heap.size, 1, none⟩) (by simp)).trans ?_⟩
    ·unfold World.cell?; rw [g]; rfl
    ·unfold World.cell?; rw [g]; rfl
   have HCe := Lib.hid hcells
   clear hcells
   have htf := take_filter l0 (keeps l1) k hlt
   have hfl := filter_len l0 (keeps l1) k hl0
   rw [← HX.out] at htf
   obtain ⟨acc, hacc⟩ : ∃ acc, acc = (l0.take k).filter (keeps l1) := ⟨_, rfl⟩
   rw [← hacc] at htf hO hfl
   have HTF := Lib.hid htf
   clear htf hacc
   cases hv : l1.any (H.sameName x.f0) with
   | true =>
    rw [hv] at K hp
    have HP := Lib.hid hp
    clear hv hp
    go_wp2_with fail
    refine K.out.mono ?_; rintro e w' ⟨rfl, hB2⟩
    have hB3 := hB2.mono (show wr.heap.size + 1 ≤ (wr.alloc (.cells #[.string x.f0, .string x.f1] 40)).heap.size by simp)
    go_wp2_with fail
    go_roundw
    case rel => exact ⟨k + 1, by omega, by go_num, Lib.hid (by
      rw [HTF.out, HP.out]
      simp only [Bool.not_true, Bool.false_eq_true, if_false, List.append_nil]
      exact Kd.R_below (Kd.R_alloc hO.out _) hB2), Lib.hid (HB1.out.trans (hB2.mono HB1.out.size))⟩
    case measure => simp [RowKit.intOf]; omega
   | false =>
    rw [hv] at K hp
    have HP := Lib.hid hp
    clear hv hp
    go_wp2_with fail
    refine K.out.mono ?_; rintro e w' ⟨rfl, hB2⟩
    obtain ⟨g0, g1⟩ := HCe.out w' (by simpa using hB2)
    have hO2 := Lib.hid (Kd.R_below (Kd.R_alloc hO.out (.cells #[.string x.f0, .string x.f1] 40)) hB2)
    have hBn := Lib.hid (HB1.out.trans (hB2.mono HB1.out.size))
    clear hB2
    go_wp2_with (first | ((with_reducible refine gate_builtin (b := .append) (xs := #[.tmp 17, .tmp 19]) rfl ?_); at_builtin; refine Kd.R_append k40 (w0 := w) w.heap.size rfl (.tmp 17) (.tmp 19) 27 40 (.agg #[(.string ⟨#[]⟩), (.string ⟨#[]⟩)]) 32 rfl Tryz.underlying27 info40 rfl (by decide) (by omega) _ acc x [.string x.f0, .string x.f1] (fun _ => True) (fun _ => False) rfl rfl ?aP (fun _ hk => hk.elim) ?aF ?aO ?aB ?aS ?aL ?_; (case aP => exact k40_mkM _ _ _ x); (case aB => exact (by repeat (first | (with_reducible first | exact hBn.out | apply below_alloc | apply pw_below_drewN | apply below_drew1) | exact hBn.out))); (case aF => exact (fun _ _ => trivial)); (case aO => exact (by (with_reducible repeat (first | apply Kd.R_alloc | apply Kd.R_drewN | apply Kd.R_drew)); exact hO2.out)); (case aS => exact (below_size (by repeat (first | (with_reducible first | exact hBn.out | apply below_alloc | apply pw_below_drewN | apply below_drew1) | exact hBn.out)))); (case aL => omega); intro v137 w19 ho hb hg hat; have HO138 := Lib.hid ho; have HB138 := Lib.hid hb; clear ho hb hg hat))
    go_roundw
    case rel => exact ⟨k + 1, by omega, by go_num, Lib.hid (by
      rw [HTF.out, HP.out]
      simp only [Bool.not_false, if_true]
      exact HO138.out), Lib.hid HB138.out⟩
    case measure => simp [RowKit.intOf]; omega
  ·go_wp2
   go_ret
   have e : l0.take k = l0 := List.take_of_length_le (by omega)
   have hO' := hO.out
   rw [e] at hO'
   exact ⟨_, rfl, hO', hB.out⟩
end Go.Proofs.YtapeodbgobkjeaaGreatDoor.P
namespace Go.Proofs.YtapeodbgobkjeaaGreatDoor.H
open Go.RowKit
theorem tab_below {P : Program} {n : String} {g : Nat} {k : IntKind} {zs : List Int} {w w' : World} (hg : P.globalNamed n = some g) (h : Lib.TabIs P w n k zs) (hb : Below w.heap.size w w') : Lib.TabIs P w' n k zs := by
 unfold Lib.TabIs World.var? at h ⊢
 rw [hg] at h ⊢
 simp only [Option.bind_some] at h ⊢
 have hlt : g < w.heap.size := by
  rcases Nat.lt_or_ge g w.heap.size with h' | h'
  ·exact h'
  ·rw [Array.getElem?_eq_none h'] at h; cases h
 rw [hb.block g hlt]
 exact h
structure GlobOk (w : World) : Prop where
 tab : Lib.TabIs Tryz.prog w "internal/strconv.uint64pow10" .u64 Lib.pow10Tab
 max : ∃ m, w.cell? ⟨1, 0, none⟩ = some (.int .i64 m)
theorem GlobOk.below {w w' : World} (h : GlobOk w) (hb : Below w.heap.size w w') : GlobOk w' :=
 ⟨tab_below (g := 0) (by kernel_rfl) h.tab hb, by
  obtain ⟨m, hm⟩ := h.max
  refine ⟨m, ?_⟩
  have hlt := World.block_lt_of_cell? _ _ hm
  unfold World.cell? at hm ⊢
  rw [hb.block 1 hlt]
  exact hm⟩
theorem laidMet_drop {P : Program} {w : World} : ∀ (i : Nat) (l : List (String × DataW Unit)), laidMet P l w → laidMet P (l.drop i) w
 | 0, _, h => h
 | _ + 1, [], h => h
 | i + 1, _ :: l, h => laidMet_drop i l h.tail
theorem GlobOk.of_laid {w : World} {l : List (String × DataW Unit)} (i : Nat) (hsh : w.ShapedOpen Tryz.prog) (h : laidMet Tryz.prog l w) (hl : l[i]? = some ("internal/strconv.uint64pow10", Lib.tabData .u64 Lib.pow10Tab)) : GlobOk w := by
 have h2 := laidMet_drop i l h
 obtain ⟨hi, he⟩ := List.getElem?_eq_some_iff.1 hl
 rw [List.drop_eq_getElem_cons hi, he] at h2
 refine ⟨?_, Go.Proofs.cell_of_shapedOpen_int (P := Tryz.prog) (g := 1) (t := 3) (zero := #[.int .i64 0]) hsh (of_decide_eq_true (by kernel_rfl)) (by kernel_rfl) rfl (by kernel_rfl) (by kernel_rfl) Tryz.underlying3⟩
 exact Lib.tabIs_of_head (g := 0) (t := 146) (e := 129) (n := 20) (by kernel_rfl) (by kernel_rfl) (by kernel_rfl) (by kernel_rfl) (by kernel_rfl) (by kernel_rfl) h2
end Go.Proofs.YtapeodbgobkjeaaGreatDoor.H
namespace Go.Proofs.YtapeodbgobkjeaaGreatDoor.P
theorem glob_below {w w' : Go.World} (h : H.GlobOk w) (hb : Go.RowKit.Below w.heap.size w w') : H.GlobOk w' := h.below hb
end Go.Proofs.YtapeodbgobkjeaaGreatDoor.P
namespace Go.Proofs.YtapeodbgobkjeaaGreatDoor.H
open Go.RowKit Go.Shelf Go.Lib
theorem fits_any (n : Int) (w : World) : Calls Tryz.prog 56 #[.int .i64 n] w fun e w' => e = .returned (.bool (decide (0 ≤ n) && decide (n ≤ 9007199254740992))) ∧ w = w' := by
 by_cases h : 0 ≤ n
 ·have hb : decide (n ≥ 0) = true := decide_eq_true h
  go_enter Tryz.func56, Tryz.ntmps56
  go_wp2
  all_goals
   go_ret
   exact ⟨by simp [h], rfl⟩
 ·have hb : decide (n ≥ 0) = false := decide_eq_false h
  go_enter Tryz.func56, Tryz.ntmps56
  go_wp2
  all_goals
   go_ret
   exact ⟨by simp [h], rfl⟩
theorem below_grow (w : World) (k : Nat) (os : Array Obj) : Below w.heap.size w (Sort.grow (w.drewN k) os) :=
 ⟨rfl, rfl, rfl, by show w.heap.size ≤ (w.heap ++ os).size; rw [Array.size_append]; omega, fun j hj => by show (w.heap ++ os)[j]? = w.heap[j]?; exact Array.getElem?_append_left hj⟩
def text10 (n : Int) : ByteArray := if 0 ≤ n ∧ n ≤ 9007199254740992 then ⟨(Lib.itoa n).toArray⟩ else ⟨#[]⟩
theorem text10_any (n : Int) (w : World) (hG : GlobOk w) (h0 : -9223372036854775808 ≤ n) (h1 : n ≤ 9223372036854775807) : Calls Tryz.prog 34 #[.int .i64 n, .int .i64 10] w fun e w' => e = .returned (.string (text10 n)) ∧ Below w.heap.size w w' := by
 have K1 := Lib.hid (fits_any n w)
 by_cases hf : 0 ≤ n ∧ n ≤ 9007199254740992
 ·have e1 : (decide (0 ≤ n) && decide (n ≤ 9007199254740992)) = true := by simp [hf]
  rw [e1] at K1
  have e2 : text10 n = ⟨(Lib.itoa n).toArray⟩ := by unfold text10; rw [if_pos hf]
  rw [e2]
  have K2 := Lib.hid (Tryz.strconv_FormatInt_10 n h0 h1 w hG.tab)
  generalize (⟨(Lib.itoa n).toArray⟩ : ByteArray) = r at K2 ⊢
  clear e1 e2 hf hG
  go_enter Tryz.func34, Tryz.ntmps34
  go_wp2_with fail
  refine K1.out.mono ?_; rintro e w' ⟨rfl, rfl⟩
  go_wp2_with fail
  refine K2.out.mono ?_; rintro e w' ⟨rfl, hk⟩
  have HK := Lib.hid hk
  clear hk
  go_wp2_with fail
  go_ret
  refine ⟨rfl, ?_⟩
  obtain ⟨k, os, rfl⟩ := HK.out
  exact below_grow _ k os
 ·have e1 : (decide (0 ≤ n) && decide (n ≤ 9007199254740992)) = false := by
   rcases Classical.not_and_iff_not_or_not.1 hf with h | h <;> simp [h]
  rw [e1] at K1
  have e2 : text10 n = ⟨#[]⟩ := by unfold text10; rw [if_neg hf]
  rw [e2]
  clear e1 e2 hf hG
  go_enter Tryz.func34, Tryz.ntmps34
  go_wp2_with fail
  refine K1.out.mono ?_; rintro e w' ⟨rfl, rfl⟩
  go_wp2_with fail
  go_ret
  exact ⟨rfl, Below.refl _ _⟩
end Go.Proofs.YtapeodbgobkjeaaGreatDoor.H
namespace Go.Proofs.YtapeodbgobkjeaaGreatDoor.P
open Go.RowKit
def num_Text.f (a0 : Int) (a1 : Int) : Option ByteArray := if a1 = 10 then (if -9223372036854775808 ≤ a0 then if a0 ≤ 9223372036854775807 then some (H.text10 a0) else none else none) else none
theorem num_Text.calls (a0 : Int) (a1 : Int) (r : ByteArray) (w : World) (hG_ : H.GlobOk w) (h : num_Text.f a0 a1 = some r) :
  Calls Tryz.prog 34 #[.int .i64 a0, .int .i64 a1] w fun e w' => e = .returned (.string r) ∧ Below w.heap.size w w' := by
 unfold num_Text.f at h
 split at h
 ·rename_i e
  subst e
  split at h
  ·split at h
   ·injection h with h
    subst h
    exact H.text10_any a0 w hG_ (by assumption) (by assumption)
   ·cases h
  ·cases h
 ·cases h
end Go.Proofs.YtapeodbgobkjeaaGreatDoor.P
namespace Go.Proofs.YtapeodbgobkjeaaGreatDoor.P
open Go.RowKit Go.Shelf Go.Lib Go.Proofs.YtapeodbgobkjeaaGreatDoorW.PrintWords Go.Proofs.YtapeodbgobkjeaaGreatDoorW.PrintLast Go.Proofs.YtapeodbgobkjeaaGreatDoorW.PrintMore
def strings_CutPrefix.f (a0 : ByteArray) (a1 : ByteArray) : Option (ByteArray × Bool) := some (⟨(Lib.trimPrefix a0.data.toList a1.data.toList).toArray⟩, Lib.hasPrefix a0.data.toList a1.data.toList)
theorem strings_CutPrefix.calls (a0 : ByteArray) (a1 : ByteArray) (r1 : ByteArray) (r2 : Bool) (w : World) (h : strings_CutPrefix.f a0 a1 = some (r1, r2)) :
  Calls Tryz.prog 174 #[.string a0, .string a1] w fun e w' => e = .returned (.tuple #[.string r1, .bool r2]) ∧ Drawn0 w w' := by
 unfold strings_CutPrefix.f at h
 injection h with h
 injection h with h1 h2
 subst h1 h2
 refine (Tryz.strings_CutPrefix a0 a1 w).mono ?_
 rintro e w' ⟨rfl, rfl⟩
 exact ⟨rfl, Drawn0.refl _⟩
def joinB (l : List ByteArray) (sep : ByteArray) : ByteArray := ⟨(Lib.join (l.map (·.data.toList)) sep.data.toList).toArray⟩
def strings_Join.f (l0 : List ByteArray) (a1 : ByteArray) : Option ByteArray := if l0.length ≤ 140737488355328 ∧ (joinB l0 a1).size ≤ 140737488355328 then some (joinB l0 a1) else none
theorem cells_of_row {w : World} {A : Option Addr} {l : List ByteArray} (h : Kd.C Kd.string w A l.length l) (hp : 0 < l.length) : ∃ bk o, A = some ⟨bk, o, none⟩ ∧ bk < w.heap.size ∧ ∀ (j : Nat) x, l[j]? = some x → w.cell? ⟨bk, o + j, none⟩ = some (.string x) := by
 obtain ⟨_, _, h3⟩ := h
 obtain ⟨ad, rfl, hc⟩ := h3 hp
 have g : ∀ (j : Nat) x, l[j]? = some x → w.cell? (ad.add j) = some (.string x) := fun j x hj => by
  obtain ⟨c, _, hk, hi⟩ := hc j x hj
  have hk' : c = [.string x] := hk
  subst hk'
  have := hi 0 _ rfl
  have e : j * Kd.string.sz + 0 = j := by show j * 1 + 0 = j; omega
  rwa [e] at this
 have h0 := g 0 l[0] (List.getElem?_eq_getElem hp)
 obtain ⟨b, o, sp⟩ := ad
 cases sp with
 | some p =>
  exfalso
  have e : (⟨b, o, some p⟩ : Addr).add 0 = ⟨b, o, some p⟩ := rfl
  rw [e] at h0
  unfold World.cell? at h0
  split at h0
  ·simp at h0
  ·cases h0
 | none =>
  have e : ∀ j : Nat, (⟨b, o, none⟩ : Addr).add j = ⟨b, o + j, none⟩ := fun j => by unfold Addr.add; split <;> simp_all
  refine ⟨b, o, rfl, World.block_lt_of_cell? _ _ h0, fun j x hj => ?_⟩
  rw [← e]
  exact g j x hj
theorem strings_Join.calls (A0 : Option Addr) (c0 : Nat) (l0 : List ByteArray) (a1 : ByteArray) (r : ByteArray) (w : World) (hr0 : Kd.C Kd.string w A0 l0.length l0) (hc0 : l0.length ≤ c0) (h : strings_Join.f l0 a1 = some r) :
  Calls Tryz.prog 58 #[.slice A0 l0.length c0, .string a1] w fun e w' => e = .returned (.string r) ∧ Below w.heap.size w w' := by
 unfold strings_Join.f at h
 split at h
 case isFalse => cases h
 case isTrue hs =>
 injection h with h
 subst h
 by_cases hp : 0 < l0.length
 ·obtain ⟨bk, o, rfl, hb, hcell⟩ := cells_of_row hr0 hp
  refine (Tryz.strings_Join bk o c0 l0 a1 w hcell hb hs.1 hc0 (by have := hs.2; unfold joinB at this; rwa [show ∀ l : List UInt8, (⟨l.toArray⟩ : ByteArray).size = l.length from fun l => by show l.toArray.size = _; rw [List.size_toArray]] at this)).mono ?_
  rintro e w' ⟨rfl, hb⟩
  exact ⟨rfl, hb⟩
 ·obtain rfl : l0 = [] := List.eq_nil_of_length_eq_zero (by omega)
  refine (Tryz.strings_Join_none A0 c0 a1 w).mono ?_
  rintro e w' ⟨rfl, rfl⟩
  exact ⟨rfl, Below.refl _ _⟩
theorem own_row (w : World) (l : List ByteArray) (N : Nat) (hl : l.length ≤ N) (hN : N ≤ maxLen) :
  Kd.R Kd.string 9 (w.alloc (.cells (Lib.cellsOf l N) 9)) w.heap.size (fun _ => True) (.slice (some ⟨w.heap.size, 0, none⟩) l.length N) l := by
 refine Kd.R_of_own ⟨?_, .inr ⟨w.heap.size, N, Lib.cellsOf l N, rfl, Nat.le_refl _, heap_alloc_new w _, hl, hN, ?_, ?_⟩⟩ (fun _ _ => trivial)
 ·rw [encs_length]; omega
 ·rw [Lib.cellsOf_size hl]; omega
 ·unfold Lib.cellsOf encs
  rw [List.toList_toArray, Nat.mul_one, List.take_append_of_le_length (by rw [List.length_map]; exact Nat.le_refl _), List.take_of_length_le (by rw [List.length_map]; exact Nat.le_refl _)]
def strings_Split.f (a0 : ByteArray) (a1 : ByteArray) : Option (List ByteArray) := if a0.size ≤ 4294967280 ∧ 1 ≤ a1.size then some (Lib.splitB a1 0 (Lib.countB a0 a1) a0) else none
theorem strings_Split.calls (a0 : ByteArray) (a1 : ByteArray) (r : List ByteArray) (w : World) (hG_ : H.GlobOk w) (h : strings_Split.f a0 a1 = some r) :
  Calls Tryz.prog 132 #[.string a0, .string a1] w fun e w' => ∃ v0_ : Value, e = .returned (v0_) ∧ Kd.R Kd.string 9 w' w.heap.size (fun _ => True) v0_ r ∧ Below w.heap.size w w' := by
 unfold strings_Split.f at h
 split at h
 case isFalse => cases h
 case isTrue hs =>
 injection h with h
 subst h
 obtain ⟨m, hm⟩ := hG_.max
 refine (Tryz.strings_Split a0 a1 m w (by omega) hm hs.2).mono ?_
 rintro e w' ⟨rfl, rfl⟩
 have hl := Lib.splitB_all a1 hs.2 0 _ a0 rfl
 have hle := Lib.countB_le a1 hs.2 a0.size a0 (Nat.le_refl _)
 have hr := own_row w (Lib.splitB a1 0 (Lib.countB a0 a1) a0) (Lib.countB a0 a1 + 1) (by omega) (by unfold maxLen; omega)
 rw [hl] at hr
 have e2 : Lib.cellsOf (Lib.splitB a1 0 (Lib.countB a0 a1) a0) (Lib.countB a0 a1 + 1) = ((Lib.splitB a1 0 (Lib.countB a0 a1) a0).map Value.string).toArray := by rw [← hl]; exact Lib.cellsOf_full _
 rw [e2] at hr
 exact ⟨_, rfl, hr, below_alloc (Below.refl _ _) _⟩
def strings_SplitN.f (a0 : ByteArray) (a1 : ByteArray) (a2 : Int) : Option (List ByteArray) := if a0.size ≤ 4294967280 ∧ 1 ≤ a1.size ∧ 1 ≤ a2 ∧ a2 ≤ 4294967280 then some (Lib.splitB a1 0 (min a2.toNat (a0.size + 1) - 1) a0) else none
theorem strings_SplitN.calls (a0 : ByteArray) (a1 : ByteArray) (a2 : Int) (r : List ByteArray) (w : World) (hG_ : H.GlobOk w) (h : strings_SplitN.f a0 a1 a2 = some r) :
  Calls Tryz.prog 133 #[.string a0, .string a1, .int .i64 a2] w fun e w' => ∃ v0_ : Value, e = .returned (v0_) ∧ Kd.R Kd.string 9 w' w.heap.size (fun _ => True) v0_ r ∧ Below w.heap.size w w' := by
 unfold strings_SplitN.f at h
 split at h
 case isFalse => cases h
 case isTrue hs =>
 injection h with h
 subst h
 obtain ⟨n, rfl⟩ : ∃ n : Nat, a2 = n := ⟨a2.toNat, by omega⟩
 rw [Int.toNat_natCast]
 obtain ⟨m, hm⟩ := hG_.max
 refine (Tryz.strings_SplitN a0 a1 n m w (by omega) hm hs.2.1 (by omega) (by omega)).mono ?_
 rintro e w' ⟨rfl, rfl⟩
 have hl := Lib.splitB_length_le a1 0 (min n (a0.size + 1) - 1) a0
 exact ⟨_, rfl, own_row w _ _ (by omega) (by unfold maxLen; omega), below_alloc (Below.refl _ _) _⟩
end Go.Proofs.YtapeodbgobkjeaaGreatDoor.P
namespace Go.Proofs.YtapeodbgobkjeaaGreatDoor.P
open Go.RowKit Go.Shelf Go.Lib Go.Proofs.YtapeodbgobkjeaaGreatDoorW.PrintWords Go.Proofs.YtapeodbgobkjeaaGreatDoorW.PrintLast Go.Proofs.YtapeodbgobkjeaaGreatDoorW.PrintMore
open H (ret_bool ret_int)
def badF (x : S40) : Bool := !Sp.nameB x.f0.data.toList || !Sp.valB x.f1.data.toList
theorem odd_any (n v : ByteArray) (w : World) (hn : n.size ≤ 9223372036854775807) (hv : v.size ≤ 9223372036854775807) :
  Calls Tryz.prog 65 #[.agg #[.string n, .string v]] w fun e w' => e = .returned (.bool (!Sp.nameB n.data.toList || !Sp.valB v.data.toList)) ∧ Below w.heap.size w w' := by
 have KN := fun W => Lib.hid (H.name_any n W hn)
 have KV := fun W => Lib.hid (H.value_any v W hv)
 generalize Sp.nameB n.data.toList = b at KN ⊢
 generalize Sp.valB v.data.toList = c at KV ⊢
 have HB0 := Lib.hid (Below.refl w.heap.size w)
 cases b
 ·go_enter Tryz.func65, Tryz.ntmps65
  go_wp2_with fail
  refine (KN _).out.mono ?_; rintro e w' ⟨rfl, rfl⟩
  go_wp2_with fail
  go_ret
  exact ⟨rfl, below_alloc HB0.out _⟩
 ·go_enter Tryz.func65, Tryz.ntmps65
  go_wp2_with fail
  refine (KN _).out.mono ?_; rintro e w' ⟨rfl, rfl⟩
  go_wp2_with fail
  refine (KV _).out.mono ?_; rintro e w' ⟨rfl, hB⟩
  go_wp2_with fail
  go_ret
  exact ⟨ret_bool (by simp), (below_alloc HB0.out _).trans (hB.mono (by simp))⟩
def idxQ {α : Type} (p : α → Bool) (l : List α) : Int := match l.findIdx? p with | some k => (k : Int) | none => -1
theorem idxQ_at {α : Type} (d : α) (p : α → Bool) (l : List α) (k : Nat) (hk : k < l.length) (h : ∀ j, j < k → p (l.getD j d) = false) (hp : p (l.getD k d) = true) : idxQ p l = k := by
 have e : l.findIdx? p = some k := by
  rw [List.findIdx?_eq_some_iff_getElem]
  refine ⟨hk, ?_, fun j hj => ?_⟩
  ·rw [List.getD_eq_getElem?_getD, List.getElem?_eq_getElem hk] at hp
   exact hp
  ·have := h j hj
   rw [List.getD_eq_getElem?_getD, List.getElem?_eq_getElem (by omega)] at this
   simpa using this
 unfold idxQ
 rw [e]
theorem idxQ_none {α : Type} (d : α) (p : α → Bool) (l : List α) (h : ∀ j, j < l.length → p (l.getD j d) = false) : idxQ p l = -1 := by
 have e : l.findIdx? p = none := by
  rw [List.findIdx?_eq_none_iff]
  intro x hx
  obtain ⟨j, hj, rfl⟩ := List.getElem_of_mem hx
  have := h j hj
  rw [List.getD_eq_getElem?_getD, List.getElem?_eq_getElem hj] at this
  exact this
 unfold idxQ
 rw [e]
theorem idxQ_any {α : Type} (p : α → Bool) (l : List α) : decide (0 ≤ idxQ p l) = l.any p := by
 unfold idxQ
 cases e : l.findIdx? p with
 | none =>
  rw [List.findIdx?_eq_none_iff] at e
  have : l.any p = false := by rw [List.any_eq_false]; intro x hx; rw [e x hx]; exact Bool.false_ne_true
  rw [this]; rfl
 | some k =>
  rw [List.findIdx?_eq_some_iff_getElem] at e
  obtain ⟨hk, hp, _⟩ := e
  have : l.any p = true := by rw [List.any_eq_true]; exact ⟨_, List.getElem_mem hk, hp⟩
  rw [this]
  simp
def smallF (l : List S40) : Bool := l.all fun x => decide (x.f0.size ≤ 9223372036854775806) && decide (x.f1.size ≤ 9223372036854775806)
theorem smallF_at {l : List S40} (h : smallF l = true) (k : Nat) (hk : k < l.length) : (l.getD k z40).f0.size ≤ 9223372036854775807 ∧ (l.getD k z40).f1.size ≤ 9223372036854775807 := by
 unfold smallF at h
 rw [List.all_eq_true] at h
 rw [List.getD_eq_getElem?_getD, List.getElem?_eq_getElem hk]
 have := h _ (List.getElem_mem hk)
 simp only [Bool.and_eq_true, decide_eq_true_eq] at this
 simp only [Option.getD_some]
 omega
set_option maxHeartbeats 1600000 in
theorem idxodd_any (l : List S40) (A : Option Addr) (c : Nat) (w : World) (hl : smallF l = true) (hn : l.length ≤ 9223372036854775807)
  (hr : Kd.C k40 w A l.length l) :
  Calls Tryz.prog 94 #[.slice A l.length c, .func (.func 65) #[] #[]] w fun e w' => e = .returned (.int .i64 (idxQ badF l)) ∧ Below w.heap.size w w' := by
 have HR := Lib.hid hr
 have HL := Lib.hid hl
 clear hr hl
 go_enter Tryz.func94, Tryz.ntmps94
 go_wp2
 go_loopw [5, 8] (fun _ i wr => ∃ k : Nat, k ≤ l.length ∧ i = .int .i64 k ∧ Hid (∀ j, j < k → badF (l.getD j z40) = false) ∧ Hid (Below w.heap.size w wr)) (fun _ i _ => l.length - (RowKit.intOf i).toNat)
 case atStart => exact ⟨0, Nat.zero_le _, rfl, Lib.hid (fun j hj => by omega), Lib.hid (Below.refl _ _)⟩
 case round =>
  obtain ⟨k, hk, rfl, hp, hB⟩ := hrel
  by_cases hlt : k < l.length
  ·obtain ⟨ad, rfl, hx0, hx1⟩ := at_T40 HR.out (k : Int) (by omega) (by omega)
   replace hx0 := (hB.out.cell (World.block_lt_of_cell? w _ hx0)).trans hx0
   replace hx1 := (hB.out.cell (World.block_lt_of_cell? w _ hx1)).trans hx1
   rw [Int.toNat_natCast] at hx0 hx1
   have hx : rd_T40 l (k : Int) = l.getD k z40 := by simp [rd_T40]
   rw [hx] at hx0 hx1
   clear hx
   obtain ⟨x, hx⟩ : ∃ x, x = l.getD k z40 := ⟨_, rfl⟩
   rw [← hx] at hx0 hx1
   have hxs := smallF_at HL.out k hlt
   rw [← hx] at hxs
   have HX := Lib.hid hx
   clear hx
   have K := Lib.hid (odd_any x.f0 x.f1 wr hxs.1 hxs.2)
   have hb : badF x = (!Sp.nameB x.f0.data.toList || !Sp.valB x.f1.data.toList) := rfl
   rw [← hb] at K
   clear hb hxs
   cases hv : badF x with
   | true =>
    rw [hv] at K
    have HV := Lib.hid hv
    clear hv
    go_wp2_with fail
    refine K.out.mono ?_; rintro e w' ⟨rfl, hB2⟩
    go_wp2_with fail
    go_ret
    exact ⟨ret_int (idxQ_at z40 _ _ k hlt hp.out (by rw [← HX.out]; exact HV.out)).symm, hB.out.trans (hB2.mono hB.out.size)⟩
   | false =>
    rw [hv] at K
    have HV := Lib.hid hv
    clear hv
    go_wp2_with fail
    refine K.out.mono ?_; rintro e w' ⟨rfl, hB2⟩
    go_wp2_with fail
    go_roundw
    case rel => exact ⟨k + 1, by omega, by go_num, Lib.hid (fun j hj => by
     by_cases e : j = k
     ·subst e; rw [← HX.out]; exact HV.out
     ·exact hp.out j (by omega)), Lib.hid (hB.out.trans (hB2.mono hB.out.size))⟩
    case measure => simp [RowKit.intOf]; omega
  ·go_wp2
   go_ret
   exact ⟨ret_int (idxQ_none z40 _ _ (fun j hj => hp.out j (by omega))).symm, hB.out⟩
theorem anyodd_any (l : List S40) (A : Option Addr) (c : Nat) (w : World) (hl : smallF l = true) (hn : l.length ≤ 9223372036854775807)
  (hr : Kd.C k40 w A l.length l) :
  Calls Tryz.prog 68 #[.slice A l.length c, .func (.func 65) #[] #[]] w fun e w' => e = .returned (.bool (l.any badF)) ∧ Below w.heap.size w w' := by
 rw [← idxQ_any]
 have K := Lib.hid (idxodd_any l A c w hl hn hr)
 generalize idxQ badF l = r at K ⊢
 clear hr hl
 go_enter Tryz.func68, Tryz.ntmps68
 go_wp2_with fail
 refine K.out.mono ?_; rintro e w' ⟨rfl, hB⟩
 go_wp2_with fail
 go_ret
 exact ⟨rfl, hB⟩
end Go.Proofs.YtapeodbgobkjeaaGreatDoor.P
