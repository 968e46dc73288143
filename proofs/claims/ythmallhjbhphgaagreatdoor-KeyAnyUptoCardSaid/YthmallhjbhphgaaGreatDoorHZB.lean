/- Several parts together: The hand contracts of package field in the form of the printed ones: plain functions and what the Go functions do; The contract of field.Items in the printed form; The contracts of strings.CutPrefix and strings.Join in the form of the printed ones; The hand contracts of strings.Cut in the form of the printed ones; Which fields are left where some names are dropped; The contract of strings.IndexByte in the form of the printed ones; A strings.Builder that a call has made itself: written, read, and what stays beside it; The contract of target.kept in the form of the printed ones: the segments of a path that are kept; Go's <= on strings, told by the strict order of the texts turned round. -/
import Derived.Test.YthmallhjbhphgaaGreatDoorPx0
import Derived.Test.YthmallhjbhphgaaGreatDoorHZA
import Derived.Test.YthmallhjbhphgaaGreatDoorShelf
import Derived.Test.YthmallhjbhphgaaGreatDoorWWords
import Derived.Shelf.Strings.BuilderK
import Derived.WalkKit
import Derived.Sort.Walk0
import Derived.Laws.Cover1
set_option linter.unusedVariables false
set_option linter.unusedSimpArgs false
namespace Go.Proofs.YthmallhjbhphgaaGreatDoor.P
open Go.RowKit Go.Proofs.YthmallhjbhphgaaGreatDoorW.PrintWords Go.Proofs.YthmallhjbhphgaaGreatDoorW.PrintLast Go.Proofs.YthmallhjbhphgaaGreatDoorW.PrintMore

def field_Lower.f (a0 : ByteArray) : Option ByteArray := if a0.size ≤ 9223372036854775806 then some ⟨(Sp.lower a0.data.toList).toArray⟩ else none
theorem field_Lower.calls (a0 : ByteArray) (r : ByteArray) (w : World) (h : field_Lower.f a0 = some r) :
  Calls Tryz.prog 40 #[.string a0] w fun e w' => e = .returned (.string r) ∧ Below w.heap.size w w' := by
 unfold field_Lower.f at h
 split at h
 ·injection h with h
  subst h
  exact H.lower_any a0 w (by omega)
 ·cases h
end Go.Proofs.YthmallhjbhphgaaGreatDoor.P
namespace Go.Proofs.YthmallhjbhphgaaGreatDoor.P
open Go.RowKit Go.Shelf Go.Proofs.YthmallhjbhphgaaGreatDoorW.PrintWords Go.Proofs.YthmallhjbhphgaaGreatDoorW.PrintLast Go.Proofs.YthmallhjbhphgaaGreatDoorW.PrintMore
attribute [local go_sem] Oper.semAt_some
def itemsB (s : ByteArray) : List ByteArray := (Sp.items s.data.toList).map H.mkB
def field_Items.f (a0 : ByteArray) : Option (List ByteArray) := if a0.size ≤ 4294967280 then some (itemsB a0) else none

theorem pieces_any (s : ByteArray) (w : World) :
  Calls Tryz.prog 67 #[.string s] w fun e w' => e = .returned (.func (.func 83) #[] #[.pointer (some ⟨w.heap.size, 0, none⟩)]) ∧ w' = w.alloc (.cells #[.string s] 9) := by
 go_enter Tryz.func67, Tryz.ntmps67
 go_wp2
 go_ret
 exact ⟨rfl, rfl⟩
theorem two_blocks (W : World) (o0 o1 : Obj) : ((W.alloc o0).alloc o1).heap[W.heap.size]? = some o0 ∧ ((W.alloc o0).alloc o1).heap[W.heap.size + 1]? = some o1 := by
 have e : ((W.alloc o0).alloc o1).heap = (W.heap.push o0).push o1 := rfl
 rw [e]
 refine ⟨?_, ?_⟩ <;> simp only [Array.getElem?_push, Array.size_push] <;> repeat (first | rw [if_pos trivial] | rw [if_neg (by omega)] | rw [if_pos (by omega)])
theorem infoStr : (Tryz.prog.info? 9).map (fun i => (i.zero, i.size, i.bytes)) = some (some (.string ⟨#[]⟩), 1, 16) := by kernel_rfl
theorem cnt_le (l : List UInt8) : (Sp.parts 44 l).length ≤ l.length + 1 := by
 induction l with
 | nil => simp [Sp.parts]
 | cons b l ih =>
  rw [Sp.parts]
  split
  ·simp; omega
  ·split
   ·simp
   ·rename_i q r e; rw [e] at ih; simp at ih ⊢; omega
theorem items_le (s : ByteArray) : (itemsB s).length ≤ s.size + 1 := by
 unfold itemsB Sp.items
 rw [List.length_map]
 refine Nat.le_trans (List.length_filter_le _ _) ?_
 rw [List.length_map]
 have := cnt_le s.data.toList
 simpa using this
theorem vitems_eq (s : ByteArray) : H.vitems s.data.toList = (itemsB s).map Value.string := by
 unfold H.vitems itemsB
 rw [List.map_map]; rfl

structure ItemAt (s : ByteArray) (h : Nat) (w : World) (j : Nat) (W : World) : Prop where
 r : ∃ v, W.heap[h]? = some (.cells #[v] 27 (0, 0)) ∧ W.ownsRow (h + 10) 9 1 v ((itemsB s).take j).length (encs Value.string ((itemsB s).take j))
 b : Below h w W

set_option maxRecDepth 100000 in
set_option maxHeartbeats 4000000 in
theorem items_in (n : Nat) (s : ByteArray) (w : World) (hs : s.size ≤ 4294967280) :
  CallsIn Fence.wide n Tryz.prog 50 #[.string s] w fun e w' => ∃ v0_ : Value, e = .returned (v0_) ∧ Kd.R Kd.string 9 w' w.heap.size (fun _ => True) v0_ (itemsB s) ∧ Below w.heap.size w w' := by
 obtain ⟨i0, hi0, hz0, hz1, hz2⟩ := info_parts infoStr
 have hpc := fun w => (callsIn_wide (n := n - 1)).2 (pieces_any s w)
 have HP := Lib.hid hpc
 clear hpc
 have hit := items_le s
 obtain ⟨h, hh⟩ : ∃ h, h = w.heap.size := ⟨_, rfl⟩
 refine callsIn_of_wp_marks Tryz.func50 rfl trivial ?_ rfl
 simp only [Tryz.ntmps50, List.size_toArray, List.length_cons, List.length_nil, Nat.reduceAdd, Nat.reduceSub, Array.replicate_succ, Array.replicate_zero, List.push_toArray, List.append_toArray, List.nil_append, List.cons_append]
 gi_wp2_with fail
 refine ⟨trivial, (fun h => by simp [Fence.wide] at h), (HP.out _).mono ?_⟩; rintro e w' ⟨rfl, rfl⟩
 gi_wp2_with fail
 obtain ⟨W0, hW0⟩ : ∃ W0, W0 = (w.alloc (.cells #[.slice none 0 0] 27)).alloc (.cells #[.string s] 9) := ⟨_, rfl⟩
 have hsz0 : W0.heap.size = h + 2 := by rw [hW0, hh]; simp
 have hb0 : Below h w W0 := by
  rw [hW0, hh]
  exact ((Below.refl _ w).alloc (Nat.le_refl _) _).alloc (by simp) _
 obtain ⟨g0, g1⟩ := two_blocks w (.cells #[.slice none 0 0] 27) (.cells #[.string s] 9)
 rw [← hW0, ← hh] at g0 g1
 rw [← hW0]
 rw [← hh]
 have HH := Lib.hid hh
 clear hh
 have c1 := H.cell_of_heap g1
 clear hW0 g1
 refine H.rf_all (gf := 83) (lb := #[.pointer (some ⟨h + 1, 0, none⟩)]) rfl (enters_of Tryz.func83 (by kernel_rfl) rfl) 6 rfl
  (H.vitems s.data.toList) (h + 10) (fun r => h + 4 ≤ r ∧ r < h + 10) (fun b => h + 4 ≤ b ∧ b < h + 10) (fun b hb => by omega) (fun r hr => by omega)
  (fun J' W' hsz' hB' hA' hY' h0' => H.pieces_in (n - 1) (n - 1 - 1) _ (h + 1) s J' W' (by omega) ((hB'.cell (p := ⟨h + 1, 0, none⟩) (by show h + 1 < _; omega)).trans c1) (by omega)
   (fun k A B row hj hg hr => hA' k A B row hj hg (fun r e => by have := hr r e; omega))
   (fun k x W1 hj hz hx => YieldAt.mono (hY' k x W1 hj (by omega) hx) (fun e w' hq => ⟨hq.1, hq.2.1, hq.2.2.1, fun b h1 h2 => hq.2.2.2 b (by omega)⟩)) h0')
  (ItemAt s h w) ?_ ⟨⟨_, g0, by simpa [encs] using World.ownsRow_nil _ _ _ _⟩, hb0⟩
  (fun x => { tmps := #[.string s, undef, .pointer (some ⟨h, 0, none⟩), x, .string s, .func (.func 83) #[] #[.pointer (some ⟨h + 1, 0, none⟩)], x, undef, undef, undef, undef, undef], defers := [] }) ?_ ?_ ?_
 ·rintro k A B row ⟨⟨v, hv, hr⟩, hB⟩ hg hrow
  have hr3 : ∀ r, row = some r → h < r ∧ r < h + 10 := fun r e => by have := hrow r e; omega
  refine ⟨⟨v, (hg.block h (Array.getElem?_eq_some_iff.1 hv).1 (fun e => by have := hr3 h e.symm; omega)).trans hv, hr.kept hg ?_⟩, hB.grown hg (by have := (Array.getElem?_eq_some_iff.1 hv).1; omega) (fun k e => by have := hr3 k e; omega)⟩
  cases hvb : v.ownBlock with
  | none => exact .inl rfl
  | some b =>
   refine .inr (fun e => ?_)
   have h1 := own_base hr b hvb
   have h2 := hr3 b e.symm
   omega
 ·intro l' x W' K hK
  gi_wp2
  exact hK
 ·rintro l' k x W' ⟨⟨v, hv, hr⟩, hB⟩ hx hlt hB0
  rw [vitems_eq, List.getElem?_map] at hx
  obtain ⟨y, hy, rfl⟩ : ∃ y, (itemsB s)[k]? = some y ∧ x = .string y := by
   cases hq : (itemsB s)[k]? with
   | none => rw [hq] at hx; cases hx
   | some y => rw [hq] at hx; injection hx with hx; exact ⟨y, rfl, hx.symm⟩
  obtain ⟨hk, hy2⟩ := List.getElem?_eq_some_iff.mp hy
  have htk : (itemsB s).take (k + 1) = (itemsB s).take k ++ [y] := by rw [List.take_succ_eq_append_getElem hk, hy2]
  have hlk : ((itemsB s).take k).length = k := by rw [List.length_take]; omega
  have HTK := Lib.hid htk
  have hc := H.cell_of_heap hv
  have hf := H.frozen_of_heap hv
  have hne : ∀ b, v.ownBlock = some b → h + 10 ≤ b := fun b e => own_base hr b e
  have HV := Lib.hid hv
  have HNE := Lib.hid hne
  have HXS := Lib.hid hlk
  rw [hlk] at hr
  obtain ⟨acc, hacc⟩ : ∃ acc, acc = encs Value.string ((itemsB s).take k) := ⟨_, rfl⟩
  rw [← hacc] at hr
  have HA := Lib.hid hacc
  clear hx hy hy2 htk hlk hv hne hacc
  gi_wp2_with (gi_at_builtin; refine wpListIn_append_own _ rfl _ _ 27 rfl (h + 10) 9 i0 _ 1 16 Tryz.underlying27 hi0 hz0 hz1 hz2 rfl (by decide) _ _ _ rfl (hr.alloc _) ⟨W'.heap.size, 0, none⟩ 1 1 [.string y] rfl rfl (cell_one_new _ _ _) (by simp [Value.oneCell']) (by unfold maxLen; omega) (by omega) (by simp; omega) ?_; intro v' w1 hown' hgrow _; obtain ⟨g', cap', rfl⟩ := ownsRow_succ hown'; have hq1 : w1.heap[h]? = W'.heap[h]? := (hgrow.block h (by simp; omega) (fun e => by have := HNE.out h e.symm; omega)).trans (Below.heap_alloc W' _ h (by omega)); have hc1 := (World.cell?_of_block (a := ⟨h, 0, none⟩) hq1).trans hc; have hf1 := (World.frozen?_of_block (a := ⟨h, 0, none⟩) hq1).trans hf)
  have hq : ∀ b, b < h + 10 → w1.heap[b]? = W'.heap[b]? := fun b hb => (hgrow.block b (by simp; omega) (fun e => by have := HNE.out b e.symm; omega)).trans (Below.heap_alloc W' _ b (by omega))
  have hq3 : ∀ b u, b ≠ h → (w1.setCell ⟨h, 0, none⟩ u).heap[b]? = w1.heap[b]? := fun b u hb => Below.heap_setCell w1 ⟨h, 0, none⟩ u b hb
  have hsz1 : W'.heap.size ≤ w1.heap.size := Nat.le_trans (by simp) hgrow.size
  have hB1 : Below h w w1 := (hB.alloc (by omega) _).grown hgrow (by simp; omega) (fun k e => by have := HNE.out k e; omega)
  refine ⟨by simpa [World.setCell] using hsz1, (hq3 _ _ (by omega)).trans (hq _ (by omega)), (hq3 _ _ (by omega)).trans (hq _ (by omega)), fun b hb => (hq3 b _ (by omega)).trans (hq b (by omega)), ⟨_, one_setCell ((hq h (by omega)).trans HV.out), ?_⟩, hB1.setCell (Nat.le_refl _) _⟩
  rw [HTK.out, List.length_append, HXS.out]
  have e2 : encs Value.string ((itemsB s).take k ++ [y]) = acc ++ [.string y] := by rw [HA.out]; simp [encs]
  rw [e2]
  exact hown'.kept (H.grown_set _ _ _) (.inr (fun e => by have := own_base hown' h e; omega))
 ·rintro W' ⟨⟨v, hv, hr⟩, hB⟩ hd
  rw [hsz0] at hd ⊢
  have hlen : (H.vitems s.data.toList).length = (itemsB s).length := by rw [vitems_eq, List.length_map]
  rw [hlen, List.take_length] at hr
  clear hlen
  have hc := H.cell_of_heap hv
  have hf := H.frozen_of_heap hv
  obtain ⟨A, n0, c0, rfl⟩ : ∃ A n0 c0, v = .slice A n0 c0 := by
   rcases hr.2 with ⟨h1, _⟩ | ⟨g, cap, cur, h1, _⟩
   ·exact ⟨_, _, _, h1⟩
   ·exact ⟨_, _, _, h1⟩
  have hne : ∀ b, (Value.slice A n0 c0).ownBlock = some b → h + 10 ≤ b := fun b e => own_base hr b e
  have HR := Lib.hid hr
  have HV := Lib.hid hv
  have HNE := Lib.hid hne
  clear hr hv hne
  have c2 : (W'.setCell ⟨h, 0, none⟩ (.slice A n0 c0)).cell? ⟨h, 0, none⟩ = some (.slice A n0 c0) := World.cell?_setCell_same' _ _ _ (by rw [hc]; rfl)
  have hd2 : (W'.setCell ⟨h, 0, none⟩ (.slice A n0 c0)).heap[h + 2]? = some (.deferred (some [])) := (Below.heap_setCell W' ⟨h, 0, none⟩ _ (h + 2) (by show h + 2 ≠ h; omega)).trans hd
  have c3 : ((W'.setCell ⟨h, 0, none⟩ (.slice A n0 c0)).putObj (h + 2) (.deferred none)).cell? ⟨h, 0, none⟩ = some (.slice A n0 c0) := (World.cell?_of_block (a := ⟨h, 0, none⟩) (World.putObj_heap_other (by show h ≠ h + 2; omega))).trans c2
  have HC2 := Lib.hid c2
  have HC3 := Lib.hid c3
  clear c2 c3
  gi_wp2_with fail
  refine ⟨by simp, .inl ⟨_, _, rfl, run_takeDeferred hd2, ?_⟩⟩
  refine ⟨.slice A n0 c0, by simp [results, Tryz.results50, go_sem, HC3.out], _, rfl, ?_, ?_⟩
  ·have h1 := HR.out.kept (H.grown_set W' h (.slice A n0 c0)) (by
    cases hvb : (Value.slice A n0 c0).ownBlock with
    | none => exact .inl rfl
    | some b => exact .inr (fun e => by have := HNE.out b hvb; injection e with e; omega))
   have h2 := ownsRow_putObj h1 (.deferred none) hd2 rfl
   have h3 := own_less h2 (show h ≤ h + 10 by omega)
   rw [← HH.out]
   exact Kd.R_of_own h3 (fun _ _ => trivial)
  ·rw [← HH.out]
   exact (hB.setCell (Nat.le_refl _) _).grown (grownBy_putObj' _ _ _) (by have := (Array.getElem?_eq_some_iff.1 hd).1; simp [World.setCell]; omega) (fun k e => by cases e; omega)
theorem field_Items.calls (a0 : ByteArray) (r : List ByteArray) (w : World) (h : field_Items.f a0 = some r) :
  Calls Tryz.prog 50 #[.string a0] w fun e w' => ∃ v0_ : Value, e = .returned (v0_) ∧ Kd.R Kd.string 9 w' w.heap.size (fun _ => True) v0_ r ∧ Below w.heap.size w w' := by
 unfold field_Items.f at h
 split at h
 ·injection h with h
  subst h
  exact (callsIn_wide (n := 9)).1 (items_in 9 a0 w (by assumption))
 ·cases h
end Go.Proofs.YthmallhjbhphgaaGreatDoor.P
namespace Go.Proofs.YthmallhjbhphgaaGreatDoor.P
open Go.RowKit Go.Shelf Go.Lib Go.Proofs.YthmallhjbhphgaaGreatDoorW.PrintWords Go.Proofs.YthmallhjbhphgaaGreatDoorW.PrintLast Go.Proofs.YthmallhjbhphgaaGreatDoorW.PrintMore
def joinB (l : List ByteArray) (sep : ByteArray) : ByteArray := ⟨(Lib.join (l.map (·.data.toList)) sep.data.toList).toArray⟩
def strings_Join.f (l0 : List ByteArray) (a1 : ByteArray) : Option ByteArray := if l0.length ≤ 140737488355328 ∧ (joinB l0 a1).size ≤ 140737488355328 then some (joinB l0 a1) else none
theorem cells_of_row {w : World} {A : Option Addr} {l : List ByteArray} (h : Kd.C Kd.string w A l.length l) (hp : 0 < l.length) : ∃ bk o, A = some ⟨bk, o, none⟩ ∧ bk < w.heap.size ∧ ∀ (j : Nat) x, l[j]? = some x → w.cell? ⟨bk, o + j, none⟩ = some (.string x) := by
 obtain ⟨_, _, h3⟩ := h
 obtain ⟨ad, rfl, hc⟩ := h3 hp
 have g : ∀ (j : Nat) x, l[j]? = some x → w.cell? (ad.add j) = some (.string x) := fun j x hj => by
  obtain ⟨c, _, hk, hi⟩ := hc j x hj
  have hk' : c = [.string x] := hk
  subst hk'
  have := hi 0 _ rfl
  have e : j * Kd.string.sz + 0 = j := by show j * 1 + 0 = j; omega
  rwa [e] at this
 have h0 := g 0 l[0] (List.getElem?_eq_getElem hp)
 obtain ⟨b, o, sp⟩ := ad
 cases sp with
 | some p =>
  exfalso
  have e : (⟨b, o, some p⟩ : Addr).add 0 = ⟨b, o, some p⟩ := rfl
  rw [e] at h0
  unfold World.cell? at h0
  split at h0
  ·simp at h0
  ·cases h0
 | none =>
  have e : ∀ j : Nat, (⟨b, o, none⟩ : Addr).add j = ⟨b, o + j, none⟩ := fun j => by unfold Addr.add; split <;> simp_all
  refine ⟨b, o, rfl, World.block_lt_of_cell? _ _ h0, fun j x hj => ?_⟩
  rw [← e]
  exact g j x hj
theorem strings_Join.calls (A0 : Option Addr) (c0 : Nat) (l0 : List ByteArray) (a1 : ByteArray) (r : ByteArray) (w : World) (hr0 : Kd.C Kd.string w A0 l0.length l0) (hc0 : l0.length ≤ c0) (h : strings_Join.f l0 a1 = some r) :
  Calls Tryz.prog 43 #[.slice A0 l0.length c0, .string a1] w fun e w' => e = .returned (.string r) ∧ Below w.heap.size w w' := by
 unfold strings_Join.f at h
 split at h
 case isFalse => cases h
 case isTrue hs =>
 injection h with h
 subst h
 by_cases hp : 0 < l0.length
 ·obtain ⟨bk, o, rfl, hb, hcell⟩ := cells_of_row hr0 hp
  refine (Tryz.strings_Join bk o c0 l0 a1 w hcell hb hs.1 hc0 (by have := hs.2; unfold joinB at this; rwa [show ∀ l : List UInt8, (⟨l.toArray⟩ : ByteArray).size = l.length from fun l => by show l.toArray.size = _; rw [List.size_toArray]] at this)).mono ?_
  rintro e w' ⟨rfl, hb⟩
  exact ⟨rfl, hb⟩
 ·obtain rfl : l0 = [] := List.eq_nil_of_length_eq_zero (by omega)
  refine (Tryz.strings_Join_none A0 c0 a1 w).mono ?_
  rintro e w' ⟨rfl, rfl⟩
  exact ⟨rfl, Below.refl _ _⟩
theorem own_row (w : World) (l : List ByteArray) (N : Nat) (hl : l.length ≤ N) (hN : N ≤ maxLen) :
  Kd.R Kd.string 9 (w.alloc (.cells (Lib.cellsOf l N) 9)) w.heap.size (fun _ => True) (.slice (some ⟨w.heap.size, 0, none⟩) l.length N) l := by
 refine Kd.R_of_own ⟨?_, .inr ⟨w.heap.size, N, Lib.cellsOf l N, rfl, Nat.le_refl _, heap_alloc_new w _, hl, hN, ?_, ?_⟩⟩ (fun _ _ => trivial)
 ·rw [encs_length]; omega
 ·rw [Lib.cellsOf_size hl]; omega
 ·unfold Lib.cellsOf encs
  rw [List.toList_toArray, Nat.mul_one, List.take_append_of_le_length (by rw [List.length_map]; exact Nat.le_refl _), List.take_of_length_le (by rw [List.length_map]; exact Nat.le_refl _)]
end Go.Proofs.YthmallhjbhphgaaGreatDoor.P
namespace Go.Proofs.YthmallhjbhphgaaGreatDoor.P
open Go.RowKit Go.Proofs.YthmallhjbhphgaaGreatDoorW.PrintWords Go.Proofs.YthmallhjbhphgaaGreatDoorW.PrintLast Go.Proofs.YthmallhjbhphgaaGreatDoorW.PrintMore

def strings_Cut.f (a0 : ByteArray) (a1 : ByteArray) : Option (ByteArray × ByteArray × Bool) :=
 if a0.size ≤ 9223372036854775806 then
  match a1.data.toList with
  | [c] => some (⟨(Sp.cutL c a0.data.toList).toArray⟩, ⟨(Sp.cutR c a0.data.toList).toArray⟩, Sp.cutIs c a0.data.toList)
  | _ => none
 else none
theorem strings_Cut.calls (a0 : ByteArray) (a1 : ByteArray) (r1 : ByteArray) (r2 : ByteArray) (r3 : Bool) (w : World) (h : strings_Cut.f a0 a1 = some (r1, r2, r3)) :
  Calls Tryz.prog 73 #[.string a0, .string a1] w fun e w' => e = .returned (.tuple #[.string r1, .string r2, .bool r3]) ∧ Drawn0 w w' := by
 unfold strings_Cut.f at h
 split at h
 ·split at h
  ·rename_i c hc
   injection h with h
   injection h with h1 h
   injection h with h2 h3
   subst h1 h2 h3
   have e : a1 = ⟨#[c]⟩ := H.ba_ext (by rw [hc])
   subst e
   exact (H.cut_any a0 c w (by omega)).mono fun e w' ⟨h1, n, h2⟩ => ⟨h1, ⟨n, h2⟩⟩
  ·cases h
 ·cases h
end Go.Proofs.YthmallhjbhphgaaGreatDoor.P
namespace Go.Proofs.YthmallhjbhphgaaGreatDoor.P
open Go.RowKit Go.Shelf Go.Lib Go.Proofs.YthmallhjbhphgaaGreatDoorW.PrintWords Go.Proofs.YthmallhjbhphgaaGreatDoorW.PrintLast Go.Proofs.YthmallhjbhphgaaGreatDoorW.PrintMore
end Go.Proofs.YthmallhjbhphgaaGreatDoor.P
namespace Go.Proofs.YthmallhjbhphgaaGreatDoor.P
open Go.RowKit Go.Shelf Go.Lib Go.Proofs.YthmallhjbhphgaaGreatDoorW.PrintWords Go.Proofs.YthmallhjbhphgaaGreatDoorW.PrintLast Go.Proofs.YthmallhjbhphgaaGreatDoorW.PrintMore
def strings_IndexByte.f (a0 : ByteArray) (a1 : Int) : Option Int := if 0 ≤ a1 ∧ a1 ≤ 255 then some (Lib.indexByte a0.data.toList a1.toNat.toUInt8) else none
theorem strings_IndexByte.calls (a0 : ByteArray) (a1 : Int) (r : Int) (w : World) (h : strings_IndexByte.f a0 a1 = some r) :
  Calls Tryz.prog 56 #[.string a0, .int .u8 a1] w fun e w' => e = .returned (.int .i64 r) ∧ Drawn0 w w' := by
 unfold strings_IndexByte.f at h
 split at h
 ·injection h with h
  subst h
  refine (Tryz.strings_IndexByte a0 a1 w).mono ?_
  rintro e w' ⟨rfl, rfl⟩
  exact ⟨rfl, Drawn0.refl _⟩
 ·cases h
end Go.Proofs.YthmallhjbhphgaaGreatDoor.P
namespace Go.Proofs.YthmallhjbhphgaaGreatDoor.H
open Go.RowKit Go.Shelf Go Go.Lib Go.Proofs.YthmallhjbhphgaaGreatDoorW.PrintWords
def bren : Go.Shelf.Ren := ⟨fun | 166 => 39 | 167 => 76 | 240 => 54 | 276 => 71 | n => n, fun | 70 => 70 | 72 => 72 | 9 => 9 | 0 => 0 | 3 => 3 | 4 => 4 | 5 => 5 | 20 => 20 | 37 => 31 | 75 => 74 | 80 => 77 | 164 => 101 | n => n, fun | n => n⟩
theorem lays166 : Lays.n166 Tryz.prog bren := {
 mixed := by kernel_rfl
 f166 := Tryz.func39.trans (congrArg some (by kernel_rfl))
 f240 := Tryz.func54.trans (congrArg some (by kernel_rfl))
 f276 := Tryz.func71.trans (congrArg some (by kernel_rfl))
 t0 := Tryz.underlying0
 a0 := Tryz.isAgg0
 z0 := Tryz.sizeOf0
 v0 := Tryz.zeroValue0
 t3 := Tryz.underlying3
 a3 := Tryz.isAgg3
 z3 := Tryz.sizeOf3
 v3 := Tryz.zeroValue3
 t4 := Tryz.underlying4
 a4 := Tryz.isAgg4
 z4 := Tryz.sizeOf4
 v4 := Tryz.zeroValue4
 t9 := Tryz.underlying9
 a9 := Tryz.isAgg9
 z9 := Tryz.sizeOf9
 v9 := Tryz.zeroValue9
 t20 := Tryz.underlying20
 a20 := Tryz.isAgg20
 z20 := Tryz.sizeOf20
 v20 := Tryz.zeroValue20
 t37 := Tryz.underlying31
 a37 := Tryz.isAgg31
 z37 := Tryz.sizeOf31
 v37 := Tryz.zeroValue31
 t70 := Tryz.underlying70
 a70 := Tryz.isAgg70
 z70 := Tryz.sizeOf70
 v70 := Tryz.zeroValue70
 t72 := Tryz.underlying72
 a72 := Tryz.isAgg72
 z72 := Tryz.sizeOf72
 v72 := Tryz.zeroValue72
 t75 := Tryz.underlying74
 a75 := Tryz.isAgg74
 z75 := Tryz.sizeOf74
 v75 := Tryz.zeroValue74
 t164 := Tryz.underlying101
 a164 := Tryz.isAgg101
 z164 := Tryz.sizeOf101
 v164 := Tryz.zeroValue101 }
theorem lays167 : Lays.n167 Tryz.prog bren := {
 mixed := by kernel_rfl
 f167 := Tryz.func76.trans (congrArg some (by kernel_rfl))
 f240 := Tryz.func54.trans (congrArg some (by kernel_rfl))
 f276 := Tryz.func71.trans (congrArg some (by kernel_rfl))
 t0 := Tryz.underlying0
 a0 := Tryz.isAgg0
 z0 := Tryz.sizeOf0
 v0 := Tryz.zeroValue0
 t4 := Tryz.underlying4
 a4 := Tryz.isAgg4
 z4 := Tryz.sizeOf4
 v4 := Tryz.zeroValue4
 t5 := Tryz.underlying5
 a5 := Tryz.isAgg5
 z5 := Tryz.sizeOf5
 v5 := Tryz.zeroValue5
 t9 := Tryz.underlying9
 a9 := Tryz.isAgg9
 z9 := Tryz.sizeOf9
 v9 := Tryz.zeroValue9
 t20 := Tryz.underlying20
 a20 := Tryz.isAgg20
 z20 := Tryz.sizeOf20
 v20 := Tryz.zeroValue20
 t37 := Tryz.underlying31
 a37 := Tryz.isAgg31
 z37 := Tryz.sizeOf31
 v37 := Tryz.zeroValue31
 t70 := Tryz.underlying70
 a70 := Tryz.isAgg70
 z70 := Tryz.sizeOf70
 v70 := Tryz.zeroValue70
 t72 := Tryz.underlying72
 a72 := Tryz.isAgg72
 z72 := Tryz.sizeOf72
 v72 := Tryz.zeroValue72
 t75 := Tryz.underlying74
 a75 := Tryz.isAgg74
 z75 := Tryz.sizeOf74
 v75 := Tryz.zeroValue74
 t164 := Tryz.underlying101
 a164 := Tryz.isAgg101
 z164 := Tryz.sizeOf101
 v164 := Tryz.zeroValue101 }
theorem bextra : Builder.Extra Tryz.prog bren := {
 sizeBuilder := by kernel_rfl
 liesBuilder := by kernel_rfl
 t5 := Tryz.underlying5
 a5 := Tryz.isAgg5
 z5 := Tryz.sizeOf5
 v5 := Tryz.zeroValue5
 infoByte := by kernel_rfl
 cellsByte := by kernel_rfl
 sizeByte := by kernel_rfl
 neB5 := by decide }
def BW (b : Nat) (out : ByteArray) (w : World) : Prop := Lib.IsBuilderF 72 5 b b (strCells out) w
theorem strCells_app (a b : ByteArray) : strCells (a ++ b) = strCells a ++ strCells b := by
 unfold strCells
 rw [ByteArray.data_append, Array.toList_append, List.map_append]
theorem BW.new (w : World) : BW w.heap.size ⟨#[]⟩ (w.alloc (.cells #[.pointer none, .slice none 0 0] 72)) := IsBuilderF.of (Lib.fresh_isBuilder 72 5 w)
theorem BW.lt {b : Nat} {out : ByteArray} {w : World} (h : BW b out w) : b < w.heap.size := by
 have key : ∀ p, BuilderAtF 72 5 b b p (strCells out) w → b < w.heap.size := fun p h => by
  obtain ⟨_, v, hk, _⟩ := h
  exact (Array.getElem?_eq_some_iff.1 hk).1
 exact h.elim (key _) (key _)
theorem BW.block {b : Nat} {out : ByteArray} {w : World} (h : BW b out w) : ∃ cs, w.heap[b]? = some (.cells cs 72 (0, 0)) := by
 have key : ∀ p, BuilderAtF 72 5 b b p (strCells out) w → ∃ cs, w.heap[b]? = some (.cells cs 72 (0, 0)) := fun p h => by
  obtain ⟨_, v, hk, _⟩ := h
  exact ⟨_, hk⟩
 exact h.elim (key _) (key _)
theorem BW.below {b : Nat} {out : ByteArray} {w w' : World} (h : BW b out w) (hb : Below w.heap.size w w') : BW b out w' := by
 have hlt := BW.lt h
 have key : ∀ p, BuilderAtF 72 5 b b p (strCells out) w → BuilderAtF 72 5 b b p (strCells out) w' := fun p h => by
  obtain ⟨hB, v, hk, hown, hne⟩ := h
  refine ⟨hB, v, (hb.block b hlt).trans hk, ?_, hne⟩
  refine hown.kept (row := none) ⟨hb.os, hb.tape, hb.output, hb.size, fun k hk _ => hb.block k hk⟩ ?_
  cases e : v.ownBlock with
  | none => exact .inl rfl
  | some g => exact .inr (by simp)
 exact h.elim (fun h => .inl (key _ h)) (fun h => .inr (key _ h))
theorem BW.write {b : Nat} {out : ByteArray} {w : World} (h : BW b out w) (s : ByteArray) (hlen : out.size + s.size ≤ 140737488355328) :
  Calls Tryz.prog 39 #[.pointer (some ⟨b, 0, none⟩), .string s] w fun e w' => e = .returned (.tuple #[.int .i64 s.size, .nilIface]) ∧ BW b (out ++ s) w' ∧ Below b w w' ∧ OthersKept 5 (some b) w w' := by
 refine (Any.Builder_WriteString_k lays166 bextra b b (strCells out) s w h (by rw [strCells_length]; omega) (Nat.le_of_lt (BW.lt h))).mono ?_
 rintro e w' ⟨rfl, h1, h2, h3⟩
 exact ⟨rfl, .inr (by rw [strCells_app]; exact h1), h2, h3⟩
theorem BW.byte {b : Nat} {out : ByteArray} {w : World} (h : BW b out w) (c : UInt8) (hlen : out.size + 1 ≤ 140737488355328) :
  Calls Tryz.prog 76 #[.pointer (some ⟨b, 0, none⟩), .int .u8 (c.toNat : Int)] w fun e w' => e = .returned .nilIface ∧ BW b (out ++ ⟨#[c]⟩) w' ∧ Below b w w' ∧ OthersKept 5 (some b) w w' := by
 refine (Any.Builder_WriteByte_k lays167 bextra b b (strCells out) (c.toNat : Int) w h (by rw [strCells_length]; omega) (Nat.le_of_lt (BW.lt h))).mono ?_
 rintro e w' ⟨rfl, h1, h2, h3⟩
 exact ⟨rfl, .inr (by rw [strCells_app]; exact h1), h2, h3⟩
theorem BW.text {b : Nat} {out : ByteArray} {w : World} (h : BW b out w) :
  Calls Tryz.prog 41 #[.pointer (some ⟨b, 0, none⟩)] w fun e w' => e = .returned (.string out) ∧ BW b out w' ∧ Below b w w' ∧ OthersKept 5 (some b) w w' := by
 refine (Tryz.Builder_String_any_k b b out.data.toList w h (Nat.le_of_lt (BW.lt h))).mono ?_
 rintro e w' ⟨rfl, h1, h2, h3⟩
 exact ⟨by simp, h1, h2, h3⟩
theorem BW.row {b base : Nat} {out : ByteArray} {w w' : World} {ok : Nat → Prop} {v : Value} {xs : List ByteArray} (h : BW b out w) (hk : OthersKept 5 (some b) w w') (hr : Kd.string.R 9 w base ok v xs) : Kd.string.R 9 w' base ok v xs := by
 obtain ⟨cs, hcs⟩ := BW.block h
 refine Kd.R_mono (Kd.R_move (Kd.R_bound hr) ?_) (fun k hk => hk.1)
 rintro k ⟨_, _, _, q, hq, cells, hc⟩
 have hq' : q = 9 := by
  rcases List.mem_cons.1 hq with h | h
  ·exact h
  ·cases h
 subst hq'
 rw [hc]
 refine hk k _ hc (fun e => ?_) (fun c fz e => ?_)
 ·injection e with e
  subst e
  rw [hcs] at hc
  injection hc with hc
  injection hc with _ h2 _
  cases h2
 ·injection e with _ h2 _
  cases h2
def strLen : Value → Nat | .string s => s.size | _ => 0
theorem wrap_step {i m : Nat} (h : i < m) (hm : m ≤ 9223372036854775807) : wrap64 ((i : Int) + 1) = ((i + 1 : Nat) : Int) := by unfold wrap64; omega
theorem less_step {i m : Nat} (h : i < m) : m - (RowKit.intOf (.int .i64 ((i + 1 : Nat) : Int))).toNat < m - (RowKit.intOf (.int .i64 (i : Int))).toNat := by
 simp only [RowKit.intOf, Int.toNat_natCast]
 omega
end Go.Proofs.YthmallhjbhphgaaGreatDoor.H
namespace Go.Proofs.YthmallhjbhphgaaGreatDoor.P
open Go.RowKit Go.Shelf Go.Proofs.YthmallhjbhphgaaGreatDoorW.PrintWords Go.Proofs.YthmallhjbhphgaaGreatDoorW.PrintLast Go.Proofs.YthmallhjbhphgaaGreatDoorW.PrintMore
attribute [local go_sem] Oper.semAt_some
def dotB : ByteArray := ⟨#[46]⟩
def dot2B : ByteArray := ⟨#[46, 46]⟩
def kstep (out : List ByteArray) (p : ByteArray) : List ByteArray := if p = dot2B then out.take (out.length - 1) else if p = dotB then out else out ++ [p]
def keptL (l : List ByteArray) : List ByteArray := l.foldl kstep []
def lastB (l : List ByteArray) : ByteArray := l.getLastD ByteArray.empty
def segsB (s : ByteArray) : List ByteArray := (Sp.parts 47 s.data.toList).map H.mkB
def keptOf (s : ByteArray) : List ByteArray := if lastB (segsB s) = dotB ∨ lastB (segsB s) = dot2B then keptL (segsB s) ++ [ByteArray.empty] else keptL (segsB s)
def target_kept.f (a0 : ByteArray) : Option (List ByteArray) := if 1 ≤ a0.size ∧ a0.size ≤ 4294967280 then some (keptOf (a0.extract 1 a0.size)) else none
theorem parts_cnt (c : UInt8) (l : List UInt8) : (Sp.parts c l).length ≤ l.length + 1 := by
 induction l with
 | nil => simp [Sp.parts]
 | cons b l ih =>
  rw [Sp.parts]
  split
  ·simp; omega
  ·split
   ·simp
   ·rename_i q r e; rw [e] at ih; simp at ih ⊢; omega
theorem keptL_len (l : List ByteArray) : (keptL l).length ≤ l.length := by
 unfold keptL
 have key : ∀ (l acc : List ByteArray), (l.foldl kstep acc).length ≤ acc.length + l.length := by
  intro l
  induction l with
  | nil => intro acc; simp
  | cons p l ih =>
   intro acc
   rw [List.foldl_cons, List.length_cons]
   have h1 := ih (kstep acc p)
   have h2 : (kstep acc p).length ≤ acc.length + 1 := by
    unfold kstep
    split
    ·rw [List.length_take]; omega
    ·split
     ·omega
     ·rw [List.length_append]; simp
   omega
 have := key l []
 simpa using this
theorem keptL_snoc (l : List ByteArray) (k : Nat) (y : ByteArray) (h : l[k]? = some y) : keptL (l.take (k + 1)) = kstep (keptL (l.take k)) y := by
 obtain ⟨hk, hy⟩ := List.getElem?_eq_some_iff.mp h
 unfold keptL
 rw [List.take_succ_eq_append_getElem hk, hy, List.foldl_append]
 rfl
theorem lastB_snoc (l : List ByteArray) (k : Nat) (y : ByteArray) (h : l[k]? = some y) : lastB (l.take (k + 1)) = y := by
 obtain ⟨hk, hy⟩ := List.getElem?_eq_some_iff.mp h
 unfold lastB
 rw [List.take_succ_eq_append_getElem hk, hy]
 simp
theorem eq_dot2 {y : ByteArray} (h : y = dot2B) : (y.toList == [46, 46]) = true := by subst h; decide +kernel
theorem eq_dot {y : ByteArray} (h : y = dotB) : (y.toList == [46]) = true := by subst h; decide +kernel
theorem ne_of_list {y : ByteArray} {l : List UInt8} (b : ByteArray) (hb : b.data.toList = l) (h : y ≠ b) : (y.toList == l) = false := by
 rw [beq_eq_false_iff_ne]
 intro e
 refine h (H.ba_ext ?_)
 rw [hb, ← e, Lib.toList_data]
theorem ne_dot2 {y : ByteArray} (h : y ≠ dot2B) : (y.toList == [46, 46]) = false := ne_of_list dot2B rfl h
theorem ne_dot {y : ByteArray} (h : y ≠ dotB) : (y.toList == [46]) = false := ne_of_list dotB rfl h
theorem infoStrK : (Tryz.prog.info? 9).map (fun i => (i.zero, i.size, i.bytes)) = some (some (.string ⟨#[]⟩), 1, 16) := by kernel_rfl
theorem five_blocks (W : World) (o0 o1 o2 o3 o4 : Obj) :
  (((((W.alloc o0).alloc o1).alloc o2).alloc o3).alloc o4).heap[W.heap.size]? = some o0 ∧ (((((W.alloc o0).alloc o1).alloc o2).alloc o3).alloc o4).heap[W.heap.size + 1]? = some o1 ∧
  (((((W.alloc o0).alloc o1).alloc o2).alloc o3).alloc o4).heap[W.heap.size + 2]? = some o2 ∧ (((((W.alloc o0).alloc o1).alloc o2).alloc o3).alloc o4).heap[W.heap.size + 3]? = some o3 ∧ (((((W.alloc o0).alloc o1).alloc o2).alloc o3).alloc o4).heap[W.heap.size + 4]? = some o4 := by
 have e : (((((W.alloc o0).alloc o1).alloc o2).alloc o3).alloc o4).heap = ((((W.heap.push o0).push o1).push o2).push o3).push o4 := rfl
 rw [e]
 refine ⟨?_, ?_, ?_, ?_, ?_⟩ <;> simp only [Array.getElem?_push, Array.size_push] <;> repeat (first | rw [if_pos trivial] | rw [if_neg (by omega)] | rw [if_pos (by omega)])
theorem cell_new_set (W : World) (a : Addr) (u x : Value) (t : TypeId) : ∀ (j : Nat) (z : Value), [x][j]? = some z → ((W.setCell a u).alloc (.cells #[x] t)).cell? ((⟨W.heap.size, 0, none⟩ : Addr).add j) = some z := by
 have e : W.heap.size = (W.setCell a u).heap.size := by simp [World.setCell]
 rw [e]
 exact cell_one_new _ _ _
structure KeptAt (s : ByteArray) (h : Nat) (w : World) (j : Nat) (W : World) : Prop where
 r : ∃ v, W.heap[h]? = some (.cells #[v] 27 (0, 0)) ∧ W.ownsRow (h + 7) 9 1 v (keptL ((segsB s).take j)).length (encs Value.string (keptL ((segsB s).take j)))
 e : W.heap[h + 1]? = some (.cells #[.string (lastB ((segsB s).take j))] 9 (0, 0))
 b : Below h w W

set_option maxRecDepth 100000 in
set_option maxHeartbeats 4000000 in
theorem kept_in (n : Nat) (p : ByteArray) (w : World) (hp1 : 1 ≤ p.size) (hs : p.size ≤ 4294967280) :
  CallsIn Fence.wide n Tryz.prog 60 #[.string p] w fun e w' => ∃ v0_ : Value, e = .returned (v0_) ∧ Kd.R Kd.string 9 w' w.heap.size (fun _ => True) v0_ (keptOf (p.extract 1 p.size)) ∧ Below w.heap.size w w' := by
 obtain ⟨i0, hi0, hz0, hz1, hz2⟩ := info_parts infoStrK
 obtain ⟨s, hsv⟩ : ∃ s, s = p.extract 1 p.size := ⟨_, rfl⟩
 have hss : s.size ≤ 4294967280 := by rw [hsv, ByteArray.size_extract]; omega
 have hpc := fun w => (callsIn_wide (n := n - 1)).2 (H.splitseq_any s ⟨#[47]⟩ w)
 have HP := Lib.hid hpc
 clear hpc
 have hit : (segsB s).length ≤ s.size + 1 := by unfold segsB; rw [List.length_map]; have := parts_cnt 47 s.data.toList; simpa using this
 obtain ⟨h, hh⟩ : ∃ h, h = w.heap.size := ⟨_, rfl⟩
 have hp2 : (1 : Int) ≤ (p.size : Int) := by omega
 rw [← hsv]
 have HSV := Lib.hid hsv
 refine callsIn_of_wp_marks Tryz.func60 rfl trivial ?_ rfl
 simp only [Tryz.ntmps60, List.size_toArray, List.length_cons, List.length_nil, Nat.reduceAdd, Nat.reduceSub, Array.replicate_succ, Array.replicate_zero, List.push_toArray, List.append_toArray, List.nil_append, List.cons_append]
 gi_wp2_with fail
 simp only [← hsv]
 refine ⟨trivial, (fun h => by simp [Fence.wide] at h), (HP.out _).mono ?_⟩; rintro e w' ⟨rfl, rfl⟩
 clear hsv
 gi_wp2_with fail
 obtain ⟨W0, hW0⟩ : ∃ W0, W0 = ((((w.alloc (.cells #[.slice none 0 0] 27)).alloc (.cells #[.string ⟨#[]⟩] 9)).alloc (.cells #[.string s] 9)).alloc (.cells #[.string ⟨#[47]⟩] 9)).alloc (.cells #[.int .i64 0] 3) := ⟨_, rfl⟩
 have hsz0 : W0.heap.size = h + 5 := by rw [hW0, hh]; simp
 have hb0 : Below h w W0 := by
  rw [hW0, hh]
  exact (((((Below.refl _ w).alloc (Nat.le_refl _) _).alloc (by simp) _).alloc (by simp; omega) _).alloc (by simp; omega) _).alloc (by simp; omega) _
 obtain ⟨g0, g1, g2, g3, g4⟩ := five_blocks w (.cells #[.slice none 0 0] 27) (.cells #[.string ⟨#[]⟩] 9) (.cells #[.string s] 9) (.cells #[.string ⟨#[47]⟩] 9) (.cells #[.int .i64 0] 3)
 rw [← hW0, ← hh] at g0 g1 g2 g3 g4
 rw [← hW0]
 rw [← hh]
 have HH := Lib.hid hh
 clear hh
 have c2 := H.cell_of_heap g2
 have c3 := H.cell_of_heap g3
 have c4 := H.cell_of_heap g4
 have f2 := H.frozen_of_heap g2
 clear hW0 g2 g3 g4
 refine H.rf_all (gf := 114) (lb := #[.pointer (some ⟨h + 3, 0, none⟩), .pointer (some ⟨h + 2, 0, none⟩), .pointer (some ⟨h + 4, 0, none⟩)]) rfl (enters_of Tryz.func114 (by kernel_rfl) rfl) 8 rfl
  (H.vparts 47 s.data.toList) 0 (fun r => r = h + 2) (fun b => b = h + 3 ∨ b = h + 2 ∨ b = h + 4) (fun b hb => by omega) (fun r hr => by omega)
  (fun J' W' hsz' hB' hA' hY' h0' => H.split_in (n - 1) _ (h + 3) (h + 2) (h + 4) s 47 J' W' (by omega) (by omega)
   ((hB'.cell (p := ⟨h + 3, 0, none⟩) (by show h + 3 < _; omega)).trans c3) ((hB'.cell (p := ⟨h + 2, 0, none⟩) (by show h + 2 < _; omega)).trans c2) ((hB'.frozen (p := ⟨h + 2, 0, none⟩) (by show h + 2 < _; omega)).trans f2) ((hB'.cell (p := ⟨h + 4, 0, none⟩) (by show h + 4 < _; omega)).trans c4) (by omega) hA' (fun k x W1 hj hx => YieldAt.mono (hY' k x W1 hj (Nat.zero_le _) hx) (fun e w' h => ⟨h.1, h.2.1, h.2.2.2⟩)) h0')
  (KeptAt s h w) ?_ ⟨⟨_, g0, by simpa [encs, keptL] using World.ownsRow_nil _ _ _ _⟩, g1, hb0⟩
  (fun x => { tmps := #[.string p, undef, .pointer (some ⟨h, 0, none⟩), .pointer (some ⟨h + 1, 0, none⟩), x, .string p, .string s, .func (.func 114) #[] #[.pointer (some ⟨h + 3, 0, none⟩), .pointer (some ⟨h + 2, 0, none⟩), .pointer (some ⟨h + 4, 0, none⟩)], x, undef, undef, undef, undef, undef, undef, undef, undef, undef, undef, undef, undef, undef, undef, undef, undef, undef, undef, undef, undef, undef, undef, undef, undef, undef, undef], defers := [] }) ?_ ?_ ?_
 ·rintro k A B row ⟨⟨v, hv, hr⟩, he, hB⟩ hg hrow
  have hr3 : ∀ r, row = some r → r = h + 2 ∨ r = h + 6 := fun r e => by have := hrow r e; omega
  refine ⟨⟨v, (hg.block h (Array.getElem?_eq_some_iff.1 hv).1 (fun e => by have := hr3 h e.symm; omega)).trans hv, hr.kept hg ?_⟩, (hg.block (h + 1) (Array.getElem?_eq_some_iff.1 he).1 (fun e => by have := hr3 (h + 1) e.symm; omega)).trans he, hB.grown hg (by have := (Array.getElem?_eq_some_iff.1 hv).1; omega) (fun k e => by have := hr3 k e; omega)⟩
  cases hvb : v.ownBlock with
  | none => exact .inl rfl
  | some b =>
   refine .inr (fun e => ?_)
   have h1 := own_base hr b hvb
   have h2 := hr3 b e.symm
   omega
 ·intro l' x W' K hK
  gi_wp2
  exact hK
 ·rintro l' k x W' ⟨⟨v, hv, hr⟩, he, hB⟩ hx hlt _
  rw [hsz0] at hlt
  obtain ⟨y, hy, rfl⟩ : ∃ y, (segsB s)[k]? = some y ∧ x = .string y := by
   unfold H.vparts at hx
   unfold segsB
   rw [List.getElem?_map] at hx ⊢
   cases hq : (Sp.parts 47 s.data.toList)[k]? with
   | none => rw [hq] at hx; cases hx
   | some y => rw [hq] at hx; injection hx with hx; exact ⟨_, rfl, hx.symm⟩
  have hsn := keptL_snoc (segsB s) k y hy
  have hla := lastB_snoc (segsB s) k y hy
  have hlen : (keptL ((segsB s).take k)).length ≤ 4294967281 := by
   have h1 := keptL_len ((segsB s).take k)
   rw [List.length_take] at h1
   omega
  generalize keptL ((segsB s).take k) = L at hr hsn hlen
  generalize lastB ((segsB s).take k) = E0 at he
  have HSN := Lib.hid hsn
  have HLA := Lib.hid hla
  clear hx hy hsn hla
  have hc := H.cell_of_heap hv
  have hf := H.frozen_of_heap hv
  have hce := H.cell_of_heap he
  have hfe := H.frozen_of_heap he
  have hne : ∀ b, v.ownBlock = some b → h + 7 ≤ b := fun b e => own_base hr b e
  have HV := Lib.hid hv
  have HE := Lib.hid he
  have HNE := Lib.hid hne
  clear hv he hne
  have hW1 : Below h w (W'.setCell ⟨h + 1, 0, none⟩ (.string y)) := hB.setCell (by show h ≤ h + 1; omega) _
  have hc1 : (W'.setCell ⟨h + 1, 0, none⟩ (.string y)).cell? ⟨h, 0, none⟩ = some v := (World.cell?_of_block (Below.heap_setCell W' ⟨h + 1, 0, none⟩ _ h (by show h ≠ h + 1; omega))).trans hc
  have hf1 : (W'.setCell ⟨h + 1, 0, none⟩ (.string y)).frozen? ⟨h, 0, none⟩ = false := by
   unfold World.frozen? at hf ⊢
   rw [Below.heap_setCell W' ⟨h + 1, 0, none⟩ _ h (by show h ≠ h + 1; omega)]
   exact hf
  by_cases h1 : y = dot2B
  ·have e1 := eq_dot2 h1
   have H1 := Lib.hid h1
   clear h1
   have hlw : wrap64 ((L.length : Int) - 1) = (L.length : Int) - 1 := by unfold wrap64; omega
   obtain ⟨m, hm⟩ : ∃ m, m = L.length - 1 := ⟨_, rfl⟩
   have hmx : max ((L.length : Int) - 1) 0 = (m : Int) := by omega
   obtain ⟨A, c, rfl⟩ := own_slice hr
   have hcl : L.length ≤ c := by
    rcases hr.2 with ⟨h1, _⟩ | ⟨g, cap, cur, h1, _, _, hle, _⟩
    ·injection h1 with _ h1 _
     omega
    ·injection h1 with _ _ h1
     omega
   have hmc : (m : Int) ≤ (c : Int) := by omega
   have hm0 : (0 : Int) ≤ (m : Int) := by omega
   have htk := own_take hr (show m ≤ L.length by omega)
   have HTK := Lib.hid htk
   have HM := Lib.hid hm
   clear htk hm
   gi_wp2_with fail
   have q1 : ∀ b u, b ≠ h + 1 → (W'.setCell ⟨h + 1, 0, none⟩ u).heap[b]? = W'.heap[b]? := fun b u hb => Below.heap_setCell W' ⟨h + 1, 0, none⟩ u b hb
   have q2 : ∀ b u, b ≠ h → ((W'.setCell ⟨h + 1, 0, none⟩ (.string y)).setCell ⟨h, 0, none⟩ u).heap[b]? = (W'.setCell ⟨h + 1, 0, none⟩ (.string y)).heap[b]? := fun b u hb => Below.heap_setCell _ ⟨h, 0, none⟩ u b hb
   have hob : ∀ b, (Value.slice A m c).ownBlock = some b → h + 7 ≤ b := fun b e => own_base HTK.out b e
   rw [hsz0]
   refine ⟨by simp [World.setCell], (q2 _ _ (by omega)).trans (q1 _ _ (by omega)), (q2 _ _ (by omega)).trans (q1 _ _ (by omega)), fun b hb => (q2 b _ (by omega)).trans (q1 b _ (by omega)), ⟨_, one_setCell ((q1 h _ (by omega)).trans HV.out), ?_⟩, ?_, hW1.setCell (Nat.le_refl _) _⟩
   ·have e1 : keptL ((segsB s).take (k + 1)) = L.take m := by rw [HSN.out]; unfold kstep; rw [if_pos H1.out, HM.out]
    have e2 : (L.take m).length = m := by rw [List.length_take]; have := HM.out; omega
    have e3 : encs Value.string (L.take m) = (encs Value.string L).take (m * 1) := by simp [encs, List.map_take]
    rw [e1, e2, e3]
    exact (HTK.out.kept (H.grown_set W' (h + 1) (.string y)) (by
     cases hvb : (Value.slice A m c).ownBlock with
     | none => exact .inl rfl
     | some b => exact .inr (fun e => by have := hob b hvb; injection e with e; omega))).kept (H.grown_set _ h _) (by
     cases hvb : (Value.slice A m c).ownBlock with
     | none => exact .inl rfl
     | some b => exact .inr (fun e => by have := hob b hvb; injection e with e; omega))
   ·rw [HLA.out]
    exact (q2 _ _ (by omega)).trans (one_setCell HE.out)
  ·have e1 := ne_dot2 h1
   have H1 := Lib.hid h1
   clear h1
   by_cases h2 : y = dotB
   ·have e2 := eq_dot h2
    have H2 := Lib.hid h2
    clear h2
    gi_wp2_with fail
    have q1 : ∀ b u, b ≠ h + 1 → (W'.setCell ⟨h + 1, 0, none⟩ u).heap[b]? = W'.heap[b]? := fun b u hb => Below.heap_setCell W' ⟨h + 1, 0, none⟩ u b hb
    rw [hsz0]
    refine ⟨by simp [World.setCell], q1 _ _ (by omega), q1 _ _ (by omega), fun b hb => q1 b _ (by omega), ⟨v, (q1 h _ (by omega)).trans HV.out, ?_⟩, ?_, hW1⟩
    ·have e1 : keptL ((segsB s).take (k + 1)) = L := by rw [HSN.out]; unfold kstep; rw [if_neg H1.out, if_pos H2.out]
     rw [e1]
     exact hr.kept (H.grown_set W' (h + 1) (.string y)) (by
      cases hvb : v.ownBlock with
      | none => exact .inl rfl
      | some b => exact .inr (fun e => by have := HNE.out b hvb; injection e with e; omega))
    ·rw [HLA.out]
     exact one_setCell HE.out
   ·have e2 := ne_dot h2
    have H2 := Lib.hid h2
    clear h2
    have HRK := Lib.hid (hr.kept (H.grown_set W' (h + 1) (.string y)) (by
     cases hvb : v.ownBlock with
     | none => exact .inl rfl
     | some b => exact .inr (fun e => by have := HNE.out b hvb; injection e with e; omega)))
    have hzs : (W'.setCell ⟨h + 1, 0, none⟩ (.string y)).heap.size = W'.heap.size := by simp [World.setCell]
    gi_wp2_with (gi_at_builtin; refine wpListIn_append_own _ rfl _ _ 27 rfl (h + 7) 9 i0 _ 1 16 Tryz.underlying27 hi0 hz0 hz1 hz2 rfl (by decide) _ _ _ rfl (HRK.out.alloc _) ⟨W'.heap.size, 0, none⟩ 1 1 [.string y] rfl rfl (cell_new_set _ _ _ _ _) (by simp [Value.oneCell']) (by unfold maxLen; omega) (by omega) (by simp [hzs]; omega) ?_; intro v' w1 hown' hgrow _; obtain ⟨g', cap', rfl⟩ := ownsRow_succ hown'; have hq1 : w1.heap[h]? = W'.heap[h]? := (hgrow.block h (by simp [hzs]; omega) (fun e => by have := HNE.out h e.symm; omega)).trans ((Below.heap_alloc _ _ h (by rw [hzs]; omega)).trans (Below.heap_setCell W' ⟨h + 1, 0, none⟩ _ h (by show h ≠ h + 1; omega))); have hc1 := (World.cell?_of_block (a := ⟨h, 0, none⟩) hq1).trans hc; have hf1 := (World.frozen?_of_block (a := ⟨h, 0, none⟩) hq1).trans hf)
    have q1 : ∀ b u, b ≠ h + 1 → (W'.setCell ⟨h + 1, 0, none⟩ u).heap[b]? = W'.heap[b]? := fun b u hb => Below.heap_setCell W' ⟨h + 1, 0, none⟩ u b hb
    have q0 : ∀ b, b < h + 7 → w1.heap[b]? = (W'.setCell ⟨h + 1, 0, none⟩ (.string y)).heap[b]? := fun b hb => (hgrow.block b (by simp [hzs]; omega) (fun e => by have := HNE.out b e.symm; omega)).trans (Below.heap_alloc _ _ b (by rw [hzs]; omega))
    have q2 : ∀ b u, b ≠ h → (w1.setCell ⟨h, 0, none⟩ u).heap[b]? = w1.heap[b]? := fun b u hb => Below.heap_setCell w1 ⟨h, 0, none⟩ u b hb
    have hsz1 : W'.heap.size ≤ w1.heap.size := Nat.le_trans (by simp [hzs]) hgrow.size
    have hB1 : Below h w w1 := (hW1.alloc (by rw [hzs]; omega) _).grown hgrow (by simp [hzs]; omega) (fun k e => by have := HNE.out k e; omega)
    rw [hsz0]
    refine ⟨by simpa [World.setCell] using hsz1, (q2 _ _ (by omega)).trans ((q0 _ (by omega)).trans (q1 _ _ (by omega))), (q2 _ _ (by omega)).trans ((q0 _ (by omega)).trans (q1 _ _ (by omega))), fun b hb => (q2 b _ (by omega)).trans ((q0 b (by omega)).trans (q1 b _ (by omega))), ⟨_, one_setCell ((q0 h (by omega)).trans ((q1 h _ (by omega)).trans HV.out)), ?_⟩, ?_, hB1.setCell (Nat.le_refl _) _⟩
    ·have e1 : keptL ((segsB s).take (k + 1)) = L ++ [y] := by rw [HSN.out]; unfold kstep; rw [if_neg H1.out, if_neg H2.out]
     have e2 : encs Value.string (L ++ [y]) = encs Value.string L ++ [.string y] := by simp [encs]
     rw [e1, e2, List.length_append]
     exact hown'.kept (H.grown_set _ _ _) (.inr (fun e => by have := own_base hown' h e; omega))
    ·rw [HLA.out]
     exact (q2 _ _ (by omega)).trans ((q0 _ (by omega)).trans (one_setCell HE.out))
 ·rintro W' ⟨⟨v, hv, hr⟩, he, hB⟩ hd
  rw [hsz0] at hd ⊢
  have hlen : (H.vparts 47 s.data.toList).length = (segsB s).length := by unfold H.vparts segsB; rw [List.length_map, List.length_map]
  rw [hlen, List.take_length] at hr he
  clear hlen
  have hc := H.cell_of_heap hv
  have hf := H.frozen_of_heap hv
  have hce := H.cell_of_heap he
  have hL : (keptL (segsB s)).length ≤ 4294967281 := Nat.le_trans (keptL_len _) (by omega)
  have hne : ∀ b, v.ownBlock = some b → h + 7 ≤ b := fun b e => own_base hr b e
  have hW7 : h + 6 ≤ W'.heap.size := (Array.getElem?_eq_some_iff.1 hd).1
  have HR := Lib.hid (own_less hr (show h + 6 ≤ h + 7 by omega))
  have HV := Lib.hid hv
  have HNE := Lib.hid hne
  have HD := Lib.hid hd
  clear hr hv hne hd
  by_cases h1 : lastB (segsB s) = dotB
  ·have e1 := eq_dot h1
   have H1 := Lib.hid h1
   clear h1
   gi_wp2_with (gi_at_builtin; refine wpListIn_append_own _ rfl _ _ 27 rfl (h + 6) 9 i0 _ 1 16 Tryz.underlying27 hi0 hz0 hz1 hz2 rfl (by decide) _ _ _ rfl (HR.out.alloc _) ⟨W'.heap.size, 0, none⟩ 1 1 [.string ⟨#[]⟩] rfl rfl (cell_one_new _ _ _) (by simp [Value.oneCell']) (by unfold maxLen; omega) (by omega) (by simp; omega) ?_; intro v' w1 hown' hgrow _; obtain ⟨g', cap', rfl⟩ := ownsRow_succ hown'; have hq1 : ∀ b, b < h + 6 → w1.heap[b]? = W'.heap[b]? := (fun b hb => (hgrow.block b (by simp; omega) (fun e => by have := HNE.out b e.symm; omega)).trans (Below.heap_alloc W' _ b (by omega))); have hc1 := (World.cell?_of_block (a := ⟨h, 0, none⟩) (hq1 h (by omega))).trans hc; have hf1 := (World.frozen?_of_block (a := ⟨h, 0, none⟩) (hq1 h (by omega))).trans hf; have hc2 : (w1.setCell ⟨h, 0, none⟩ (.slice (some ⟨g', 0, none⟩) ((keptL (segsB s)).length + 1) cap')).cell? ⟨h, 0, none⟩ = some (.slice (some ⟨g', 0, none⟩) ((keptL (segsB s)).length + 1) cap') := World.cell?_setCell_same' _ _ _ (by rw [hc1]; rfl); have HQ1 := Lib.hid hq1; clear hq1)
   obtain ⟨X, hXe⟩ : ∃ X, X = ((w1.setCell ⟨h, 0, none⟩ (.slice (some ⟨g', 0, none⟩) ((keptL (segsB s)).length + 1) cap')).setCell ⟨h, 0, none⟩ (.slice (some ⟨g', 0, none⟩) ((keptL (segsB s)).length + 1) cap')) := ⟨_, rfl⟩
   have hXh : X.heap[h]? = some (.cells #[(.slice (some ⟨g', 0, none⟩) ((keptL (segsB s)).length + 1) cap')] 27 (0, 0)) := by rw [hXe]; exact one_setCell (one_setCell ((HQ1.out h (by omega)).trans HV.out))
   have hXd : X.heap[h + 5]? = some (.deferred (some [])) := by rw [hXe]; exact (Below.heap_setCell _ ⟨h, 0, none⟩ _ (h + 5) (by show h + 5 ≠ h; omega)).trans ((Below.heap_setCell _ ⟨h, 0, none⟩ _ (h + 5) (by show h + 5 ≠ h; omega)).trans ((HQ1.out (h + 5) (by omega)).trans HD.out))
   have hXr : X.ownsRow (h + 6) 9 1 (.slice (some ⟨g', 0, none⟩) ((keptL (segsB s)).length + 1) cap') (keptOf s).length (encs Value.string (keptOf s)) := by rw [hXe]; exact (by
    have e0 : keptOf s = keptL (segsB s) ++ [ByteArray.empty] := by unfold keptOf; rw [if_pos (Or.inl H1.out)]
    have e2 : encs Value.string (keptL (segsB s) ++ [ByteArray.empty]) = encs Value.string (keptL (segsB s)) ++ [.string ⟨#[]⟩] := by simp [encs]; rfl
    rw [e0, e2, List.length_append]
    exact ((hown').kept (H.grown_set _ h _) (.inr (fun e => by have := own_base hown' h e; omega))).kept (H.grown_set _ h _) (.inr (fun e => by have := own_base hown' h e; omega)))
   have hXb : Below h w X := by rw [hXe]; exact (((hB.alloc (by omega) _).grown hgrow (by simp; omega) (fun k e => by have := HNE.out k e; omega)).setCell (Nat.le_refl _) _).setCell (Nat.le_refl _) _
   rw [← hXe]
   clear hXe
   have hXc := H.cell_of_heap hXh
   have c3 : (X.putObj (h + 5) (.deferred none)).cell? ⟨h, 0, none⟩ = some (.slice (some ⟨g', 0, none⟩) ((keptL (segsB s)).length + 1) cap') := (World.cell?_of_block (a := ⟨h, 0, none⟩) (World.putObj_heap_other (by show h ≠ h + 5; omega))).trans hXc
   have HXR := Lib.hid hXr
   have HXB := Lib.hid hXb
   have HXD := Lib.hid hXd
   refine ⟨by simp, .inl ⟨_, _, rfl, run_takeDeferred hXd, ?_⟩⟩
   clear hXr hXb hXd
   refine ⟨(.slice (some ⟨g', 0, none⟩) ((keptL (segsB s)).length + 1) cap'), by simp [results, Tryz.results60, go_sem, c3], _, rfl, ?_, ?_⟩
   ·have h2 := ownsRow_putObj HXR.out (.deferred none) HXD.out rfl
    have h3 := own_less h2 (show h ≤ h + 6 by omega)
    rw [← HH.out]
    exact Kd.R_of_own h3 (fun _ _ => trivial)
   ·rw [← HH.out]
    exact HXB.out.grown (grownBy_putObj' _ _ _) (by have := (Array.getElem?_eq_some_iff.1 HXD.out).1; omega) (fun k e => by cases e; omega)
  ·have e1 := ne_dot h1
   have H1 := Lib.hid h1
   clear h1
   by_cases h2 : lastB (segsB s) = dot2B
   ·have e2 := eq_dot2 h2
    have H2 := Lib.hid h2
    clear h2
    gi_wp2_with (gi_at_builtin; refine wpListIn_append_own _ rfl _ _ 27 rfl (h + 6) 9 i0 _ 1 16 Tryz.underlying27 hi0 hz0 hz1 hz2 rfl (by decide) _ _ _ rfl (HR.out.alloc _) ⟨W'.heap.size, 0, none⟩ 1 1 [.string ⟨#[]⟩] rfl rfl (cell_one_new _ _ _) (by simp [Value.oneCell']) (by unfold maxLen; omega) (by omega) (by simp; omega) ?_; intro v' w1 hown' hgrow _; obtain ⟨g', cap', rfl⟩ := ownsRow_succ hown'; have hq1 : ∀ b, b < h + 6 → w1.heap[b]? = W'.heap[b]? := (fun b hb => (hgrow.block b (by simp; omega) (fun e => by have := HNE.out b e.symm; omega)).trans (Below.heap_alloc W' _ b (by omega))); have hc1 := (World.cell?_of_block (a := ⟨h, 0, none⟩) (hq1 h (by omega))).trans hc; have hf1 := (World.frozen?_of_block (a := ⟨h, 0, none⟩) (hq1 h (by omega))).trans hf; have hc2 : (w1.setCell ⟨h, 0, none⟩ (.slice (some ⟨g', 0, none⟩) ((keptL (segsB s)).length + 1) cap')).cell? ⟨h, 0, none⟩ = some (.slice (some ⟨g', 0, none⟩) ((keptL (segsB s)).length + 1) cap') := World.cell?_setCell_same' _ _ _ (by rw [hc1]; rfl); have HQ1 := Lib.hid hq1; clear hq1)
    obtain ⟨X, hXe⟩ : ∃ X, X = ((w1.setCell ⟨h, 0, none⟩ (.slice (some ⟨g', 0, none⟩) ((keptL (segsB s)).length + 1) cap')).setCell ⟨h, 0, none⟩ (.slice (some ⟨g', 0, none⟩) ((keptL (segsB s)).length + 1) cap')) := ⟨_, rfl⟩
    have hXh : X.heap[h]? = some (.cells #[(.slice (some ⟨g', 0, none⟩) ((keptL (segsB s)).length + 1) cap')] 27 (0, 0)) := by rw [hXe]; exact one_setCell (one_setCell ((HQ1.out h (by omega)).trans HV.out))
    have hXd : X.heap[h + 5]? = some (.deferred (some [])) := by rw [hXe]; exact (Below.heap_setCell _ ⟨h, 0, none⟩ _ (h + 5) (by show h + 5 ≠ h; omega)).trans ((Below.heap_setCell _ ⟨h, 0, none⟩ _ (h + 5) (by show h + 5 ≠ h; omega)).trans ((HQ1.out (h + 5) (by omega)).trans HD.out))
    have hXr : X.ownsRow (h + 6) 9 1 (.slice (some ⟨g', 0, none⟩) ((keptL (segsB s)).length + 1) cap') (keptOf s).length (encs Value.string (keptOf s)) := by rw [hXe]; exact (by
     have e0 : keptOf s = keptL (segsB s) ++ [ByteArray.empty] := by unfold keptOf; rw [if_pos (Or.inr H2.out)]
     have e2 : encs Value.string (keptL (segsB s) ++ [ByteArray.empty]) = encs Value.string (keptL (segsB s)) ++ [.string ⟨#[]⟩] := by simp [encs]; rfl
     rw [e0, e2, List.length_append]
     exact ((hown').kept (H.grown_set _ h _) (.inr (fun e => by have := own_base hown' h e; omega))).kept (H.grown_set _ h _) (.inr (fun e => by have := own_base hown' h e; omega)))
    have hXb : Below h w X := by rw [hXe]; exact (((hB.alloc (by omega) _).grown hgrow (by simp; omega) (fun k e => by have := HNE.out k e; omega)).setCell (Nat.le_refl _) _).setCell (Nat.le_refl _) _
    rw [← hXe]
    clear hXe
    have hXc := H.cell_of_heap hXh
    have c3 : (X.putObj (h + 5) (.deferred none)).cell? ⟨h, 0, none⟩ = some (.slice (some ⟨g', 0, none⟩) ((keptL (segsB s)).length + 1) cap') := (World.cell?_of_block (a := ⟨h, 0, none⟩) (World.putObj_heap_other (by show h ≠ h + 5; omega))).trans hXc
    have HXR := Lib.hid hXr
    have HXB := Lib.hid hXb
    have HXD := Lib.hid hXd
    refine ⟨by simp, .inl ⟨_, _, rfl, run_takeDeferred hXd, ?_⟩⟩
    clear hXr hXb hXd
    refine ⟨(.slice (some ⟨g', 0, none⟩) ((keptL (segsB s)).length + 1) cap'), by simp [results, Tryz.results60, go_sem, c3], _, rfl, ?_, ?_⟩
    ·have h2 := ownsRow_putObj HXR.out (.deferred none) HXD.out rfl
     have h3 := own_less h2 (show h ≤ h + 6 by omega)
     rw [← HH.out]
     exact Kd.R_of_own h3 (fun _ _ => trivial)
    ·rw [← HH.out]
     exact HXB.out.grown (grownBy_putObj' _ _ _) (by have := (Array.getElem?_eq_some_iff.1 HXD.out).1; omega) (fun k e => by cases e; omega)
   ·have e2 := ne_dot2 h2
    have H2 := Lib.hid h2
    clear h2
    obtain ⟨A, c, hvf⟩ := own_slice HR.out
    subst hvf
    gi_wp2_with fail
    obtain ⟨X, hXe⟩ : ∃ X, X = W'.setCell ⟨h, 0, none⟩ (.slice A (keptL (segsB s)).length c) := ⟨_, rfl⟩
    have hXh : X.heap[h]? = some (.cells #[(.slice A (keptL (segsB s)).length c)] 27 (0, 0)) := by rw [hXe]; exact one_setCell HV.out
    have hXd : X.heap[h + 5]? = some (.deferred (some [])) := by rw [hXe]; exact (Below.heap_setCell _ ⟨h, 0, none⟩ _ (h + 5) (by show h + 5 ≠ h; omega)).trans HD.out
    have hXr : X.ownsRow (h + 6) 9 1 (.slice A (keptL (segsB s)).length c) (keptOf s).length (encs Value.string (keptOf s)) := by rw [hXe]; exact (by
     have e0 : keptOf s = keptL (segsB s) := by unfold keptOf; rw [if_neg (fun h => h.elim H1.out H2.out)]
     rw [e0]
     exact HR.out.kept (H.grown_set W' h (.slice A (keptL (segsB s)).length c)) (by
      cases hvb : (Value.slice A (keptL (segsB s)).length c).ownBlock with
      | none => exact .inl rfl
      | some b => exact .inr (fun e => by have := HNE.out b hvb; injection e with e; omega)))
    have hXb : Below h w X := by rw [hXe]; exact hB.setCell (Nat.le_refl _) _
    rw [← hXe]
    clear hXe
    have hXc := H.cell_of_heap hXh
    have c3 : (X.putObj (h + 5) (.deferred none)).cell? ⟨h, 0, none⟩ = some (.slice A (keptL (segsB s)).length c) := (World.cell?_of_block (a := ⟨h, 0, none⟩) (World.putObj_heap_other (by show h ≠ h + 5; omega))).trans hXc
    have HXR := Lib.hid hXr
    have HXB := Lib.hid hXb
    have HXD := Lib.hid hXd
    refine ⟨by simp, .inl ⟨_, _, rfl, run_takeDeferred hXd, ?_⟩⟩
    clear hXr hXb hXd
    refine ⟨(.slice A (keptL (segsB s)).length c), by simp [results, Tryz.results60, go_sem, c3], _, rfl, ?_, ?_⟩
    ·have h2 := ownsRow_putObj HXR.out (.deferred none) HXD.out rfl
     have h3 := own_less h2 (show h ≤ h + 6 by omega)
     rw [← HH.out]
     exact Kd.R_of_own h3 (fun _ _ => trivial)
    ·rw [← HH.out]
     exact HXB.out.grown (grownBy_putObj' _ _ _) (by have := (Array.getElem?_eq_some_iff.1 HXD.out).1; omega) (fun k e => by cases e; omega)
theorem target_kept.calls (a0 : ByteArray) (r : List ByteArray) (w : World) (h : target_kept.f a0 = some r) :
  Calls Tryz.prog 60 #[.string a0] w fun e w' => ∃ v0_ : Value, e = .returned (v0_) ∧ Kd.R Kd.string 9 w' w.heap.size (fun _ => True) v0_ r ∧ Below w.heap.size w w' := by
 unfold target_kept.f at h
 split at h
 ·rename_i hs
  injection h with h
  subst h
  exact (callsIn_wide (n := 9)).1 (kept_in 9 a0 w hs.1 hs.2)
 ·cases h
end Go.Proofs.YthmallhjbhphgaaGreatDoor.P
namespace Go.Proofs.YthmallhjbhphgaaGreatDoor.H
open Go
end Go.Proofs.YthmallhjbhphgaaGreatDoor.H
