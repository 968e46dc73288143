/- Several parts together: The hand contracts of package field in the form of the printed ones: plain functions and what the Go functions do; The contract of field.Items in the printed form; The hand contracts of strings.Cut and field.Drop in the form of the printed ones; What the world holds of the library's tables (the powers of ten), and of one of its variables (a number): kept by whatever leaves elder blocks alone; out of the row's own condition; The contract of num.Text at base ten, in the form of the printed ones; The contracts of strings.CutPrefix, strings.Join, strings.Split and strings.SplitN in the form of the printed ones; The contract of head.Right's look at the fields: slices.ContainsFunc with the function of a field that may not be; The contract of head.Right in the printed form: may a head be; The contract of answer.reasons: a map that is made anew at each call, laid last; What is read of the map of answer.reasons at a status of answer.Status is what the reference's reason says. -/
import Derived.Test.YtlmmhcpomnjogaaDoorPx0
import Derived.Test.YtlmmhcpomnjogaaDoorHZA
import Derived.Deep.QuietTactic
import Derived.BigQuiet
import Derived.OwnWalk
import Derived.Test.YtlmmhcpomnjogaaDoorProg
import Derived.Lib.LaidTab
import Derived.Lib.ItoaMem
import Derived.Stop.LaidErr
import Derived.KernelRfl
import Derived.Below
import Derived.Shelf.Vars
import Derived.Test.YtlmmhcpomnjogaaDoorShelf
import Derived.Deep.RegionWith
import Derived.Test.YtlmmhcpomnjogaaDoorPx2
import Derived.Test.YtlmmhcpomnjogaaDoorWMore
import Derived.Carry
import Derived.MapKept
set_option linter.unusedVariables false
set_option linter.unusedSimpArgs false
namespace Go.Proofs.YtlmmhcpomnjogaaDoor.P
open Go.RowKit Go.Proofs.YtlmmhcpomnjogaaDoorW.PrintWords Go.Proofs.YtlmmhcpomnjogaaDoorW.PrintLast Go.Proofs.YtlmmhcpomnjogaaDoorW.PrintMore

def field_Name.f (a0 : ByteArray) : Option Bool := if a0.size ≤ 9223372036854775806 then some (Sp.nameB a0.data.toList) else none
theorem field_Name.calls (a0 : ByteArray) (r : Bool) (w : World) (h : field_Name.f a0 = some r) :
  Calls Tryd.prog 50 #[.string a0] w fun e w' => e = .returned (.bool r) ∧ Drawn0 w w' := by
 unfold field_Name.f at h
 split at h
 ·injection h with h
  subst h
  exact (H.name_any a0 w (by omega)).mono fun e w' ⟨h1, h2⟩ => ⟨h1, h2 ▸ Drawn0.refl w⟩
 ·cases h
def field_Lower.f (a0 : ByteArray) : Option ByteArray := if a0.size ≤ 9223372036854775806 then some ⟨(Sp.lower a0.data.toList).toArray⟩ else none
theorem field_Lower.calls (a0 : ByteArray) (r : ByteArray) (w : World) (h : field_Lower.f a0 = some r) :
  Calls Tryd.prog 32 #[.string a0] w fun e w' => e = .returned (.string r) ∧ Below w.heap.size w w' := by
 unfold field_Lower.f at h
 split at h
 ·injection h with h
  subst h
  exact H.lower_any a0 w (by omega)
 ·cases h
end Go.Proofs.YtlmmhcpomnjogaaDoor.P
namespace Go.Proofs.YtlmmhcpomnjogaaDoor.P
open Go.RowKit Go.Shelf Go.Proofs.YtlmmhcpomnjogaaDoorW.PrintWords Go.Proofs.YtlmmhcpomnjogaaDoorW.PrintLast Go.Proofs.YtlmmhcpomnjogaaDoorW.PrintMore
attribute [local go_sem] Oper.semAt_some
def itemsB (s : ByteArray) : List ByteArray := (Sp.items s.data.toList).map H.mkB
def field_Items.f (a0 : ByteArray) : Option (List ByteArray) := if a0.size ≤ 4294967280 then some (itemsB a0) else none

theorem pieces_any (s : ByteArray) (w : World) :
  Calls Tryd.prog 33 #[.string s] w fun e w' => e = .returned (.func (.func 45) #[] #[.pointer (some ⟨w.heap.size, 0, none⟩)]) ∧ w' = w.alloc (.cells #[.string s] 9) := by
 go_enter Tryd.func33, Tryd.ntmps33
 go_wp2
 go_ret
 exact ⟨rfl, rfl⟩
theorem two_blocks (W : World) (o0 o1 : Obj) : ((W.alloc o0).alloc o1).heap[W.heap.size]? = some o0 ∧ ((W.alloc o0).alloc o1).heap[W.heap.size + 1]? = some o1 := by
 have e : ((W.alloc o0).alloc o1).heap = (W.heap.push o0).push o1 := rfl
 rw [e]
 refine ⟨?_, ?_⟩ <;> simp only [Array.getElem?_push, Array.size_push] <;> repeat (first | rw [if_pos trivial] | rw [if_neg (by omega)] | rw [if_pos (by omega)])
theorem infoStr : (Tryd.prog.info? 9).map (fun i => (i.zero, i.size, i.bytes)) = some (some (.string ⟨#[]⟩), 1, 16) := by kernel_rfl
theorem cnt_le (l : List UInt8) : (Sp.parts 44 l).length ≤ l.length + 1 := by
 induction l with
 | nil => simp [Sp.parts]
 | cons b l ih =>
  rw [Sp.parts]
  split
  ·simp; omega
  ·split
   ·simp
   ·rename_i q r e; rw [e] at ih; simp at ih ⊢; omega
theorem items_le (s : ByteArray) : (itemsB s).length ≤ s.size + 1 := by
 unfold itemsB Sp.items
 rw [List.length_map]
 refine Nat.le_trans (List.length_filter_le _ _) ?_
 rw [List.length_map]
 have := cnt_le s.data.toList
 simpa using this
theorem vitems_eq (s : ByteArray) : H.vitems s.data.toList = (itemsB s).map Value.string := by
 unfold H.vitems itemsB
 rw [List.map_map]; rfl

structure ItemAt (s : ByteArray) (h : Nat) (w : World) (j : Nat) (W : World) : Prop where
 r : ∃ v, W.heap[h]? = some (.cells #[v] 49 (0, 0)) ∧ W.ownsRow (h + 10) 9 1 v ((itemsB s).take j).length (encs Value.string ((itemsB s).take j))
 b : Below h w W

set_option maxRecDepth 100000 in
set_option maxHeartbeats 4000000 in
theorem items_in (n : Nat) (s : ByteArray) (w : World) (hs : s.size ≤ 4294967280) :
  CallsIn Fence.wide n Tryd.prog 24 #[.string s] w fun e w' => ∃ v0_ : Value, e = .returned (v0_) ∧ Kd.R Kd.string 9 w' w.heap.size (fun _ => True) v0_ (itemsB s) ∧ Below w.heap.size w w' := by
 obtain ⟨i0, hi0, hz0, hz1, hz2⟩ := info_parts infoStr
 have hpc := fun w => (callsIn_wide (n := n - 1)).2 (pieces_any s w)
 have HP := Lib.hid hpc
 clear hpc
 have hit := items_le s
 obtain ⟨h, hh⟩ : ∃ h, h = w.heap.size := ⟨_, rfl⟩
 refine callsIn_of_wp_marks Tryd.func24 rfl trivial ?_ rfl
 simp only [Tryd.ntmps24, List.size_toArray, List.length_cons, List.length_nil, Nat.reduceAdd, Nat.reduceSub, Array.replicate_succ, Array.replicate_zero, List.push_toArray, List.append_toArray, List.nil_append, List.cons_append]
 gi_wp2_with fail
 refine ⟨trivial, (fun h => by simp [Fence.wide] at h), (HP.out _).mono ?_⟩; rintro e w' ⟨rfl, rfl⟩
 gi_wp2_with fail
 obtain ⟨W0, hW0⟩ : ∃ W0, W0 = (w.alloc (.cells #[.slice none 0 0] 49)).alloc (.cells #[.string s] 9) := ⟨_, rfl⟩
 have hsz0 : W0.heap.size = h + 2 := by rw [hW0, hh]; simp
 have hb0 : Below h w W0 := by
  rw [hW0, hh]
  exact ((Below.refl _ w).alloc (Nat.le_refl _) _).alloc (by simp) _
 obtain ⟨g0, g1⟩ := two_blocks w (.cells #[.slice none 0 0] 49) (.cells #[.string s] 9)
 rw [← hW0, ← hh] at g0 g1
 rw [← hW0]
 rw [← hh]
 have HH := Lib.hid hh
 clear hh
 have c1 := H.cell_of_heap g1
 clear hW0 g1
 refine H.rf_all (gf := 45) (lb := #[.pointer (some ⟨h + 1, 0, none⟩)]) rfl (enters_of Tryd.func45 (by kernel_rfl) rfl) 6 rfl
  (H.vitems s.data.toList) (h + 10) (fun r => h + 4 ≤ r ∧ r < h + 10) (fun b => h + 4 ≤ b ∧ b < h + 10) (fun b hb => by omega) (fun r hr => by omega)
  (fun J' W' hsz' hB' hA' hY' h0' => H.pieces_in (n - 1) (n - 1 - 1) _ (h + 1) s J' W' (by omega) ((hB'.cell (p := ⟨h + 1, 0, none⟩) (by show h + 1 < _; omega)).trans c1) (by omega)
   (fun k A B row hj hg hr => hA' k A B row hj hg (fun r e => by have := hr r e; omega))
   (fun k x W1 hj hz hx => YieldAt.mono (hY' k x W1 hj (by omega) hx) (fun e w' hq => ⟨hq.1, hq.2.1, hq.2.2.1, fun b h1 h2 => hq.2.2.2 b (by omega)⟩)) h0')
  (ItemAt s h w) ?_ ⟨⟨_, g0, by simpa [encs] using World.ownsRow_nil _ _ _ _⟩, hb0⟩
  (fun x => { tmps := #[.string s, undef, .pointer (some ⟨h, 0, none⟩), x, .string s, .func (.func 45) #[] #[.pointer (some ⟨h + 1, 0, none⟩)], x, undef, undef, undef, undef, undef], defers := [] }) ?_ ?_ ?_
 ·rintro k A B row ⟨⟨v, hv, hr⟩, hB⟩ hg hrow
  have hr3 : ∀ r, row = some r → h < r ∧ r < h + 10 := fun r e => by have := hrow r e; omega
  refine ⟨⟨v, (hg.block h (Array.getElem?_eq_some_iff.1 hv).1 (fun e => by have := hr3 h e.symm; omega)).trans hv, hr.kept hg ?_⟩, hB.grown hg (by have := (Array.getElem?_eq_some_iff.1 hv).1; omega) (fun k e => by have := hr3 k e; omega)⟩
  cases hvb : v.ownBlock with
  | none => exact .inl rfl
  | some b =>
   refine .inr (fun e => ?_)
   have h1 := own_base hr b hvb
   have h2 := hr3 b e.symm
   omega
 ·intro l' x W' K hK
  gi_wp2
  exact hK
 ·rintro l' k x W' ⟨⟨v, hv, hr⟩, hB⟩ hx hlt hB0
  rw [vitems_eq, List.getElem?_map] at hx
  obtain ⟨y, hy, rfl⟩ : ∃ y, (itemsB s)[k]? = some y ∧ x = .string y := by
   cases hq : (itemsB s)[k]? with
   | none => rw [hq] at hx; cases hx
   | some y => rw [hq] at hx; injection hx with hx; exact ⟨y, rfl, hx.symm⟩
  obtain ⟨hk, hy2⟩ := List.getElem?_eq_some_iff.mp hy
  have htk : (itemsB s).take (k + 1) = (itemsB s).take k ++ [y] := by rw [List.take_succ_eq_append_getElem hk, hy2]
  have hlk : ((itemsB s).take k).length = k := by rw [List.length_take]; omega
  have HTK := Lib.hid htk
  have hc := H.cell_of_heap hv
  have hf := H.frozen_of_heap hv
  have hne : ∀ b, v.ownBlock = some b → h + 10 ≤ b := fun b e => own_base hr b e
  have HV := Lib.hid hv
  have HNE := Lib.hid hne
  have HXS := Lib.hid hlk
  rw [hlk] at hr
  obtain ⟨acc, hacc⟩ : ∃ acc, acc = encs Value.string ((itemsB s).take k) := ⟨_, rfl⟩
  rw [← hacc] at hr
  have HA := Lib.hid hacc
  clear hx hy hy2 htk hlk hv hne hacc
  gi_wp2_with (gi_at_builtin; refine wpListIn_append_own _ rfl _ _ 49 rfl (h + 10) 9 i0 _ 1 16 Tryd.underlying49 hi0 hz0 hz1 hz2 rfl (by decide) _ _ _ rfl (hr.alloc _) ⟨W'.heap.size, 0, none⟩ 1 1 [.string y] rfl rfl (cell_one_new _ _ _) (by simp [Value.oneCell']) (by unfold maxLen; omega) (by omega) (by simp; omega) ?_; intro v' w1 hown' hgrow _; obtain ⟨g', cap', rfl⟩ := ownsRow_succ hown'; have hq1 : w1.heap[h]? = W'.heap[h]? := (hgrow.block h (by simp; omega) (fun e => by have := HNE.out h e.symm; omega)).trans (Below.heap_alloc W' _ h (by omega)); have hc1 := (World.cell?_of_block (a := ⟨h, 0, none⟩) hq1).trans hc; have hf1 := (World.frozen?_of_block (a := ⟨h, 0, none⟩) hq1).trans hf)
  have hq : ∀ b, b < h + 10 → w1.heap[b]? = W'.heap[b]? := fun b hb => (hgrow.block b (by simp; omega) (fun e => by have := HNE.out b e.symm; omega)).trans (Below.heap_alloc W' _ b (by omega))
  have hq3 : ∀ b u, b ≠ h → (w1.setCell ⟨h, 0, none⟩ u).heap[b]? = w1.heap[b]? := fun b u hb => Below.heap_setCell w1 ⟨h, 0, none⟩ u b hb
  have hsz1 : W'.heap.size ≤ w1.heap.size := Nat.le_trans (by simp) hgrow.size
  have hB1 : Below h w w1 := (hB.alloc (by omega) _).grown hgrow (by simp; omega) (fun k e => by have := HNE.out k e; omega)
  refine ⟨by simpa [World.setCell] using hsz1, (hq3 _ _ (by omega)).trans (hq _ (by omega)), (hq3 _ _ (by omega)).trans (hq _ (by omega)), fun b hb => (hq3 b _ (by omega)).trans (hq b (by omega)), ⟨_, one_setCell ((hq h (by omega)).trans HV.out), ?_⟩, hB1.setCell (Nat.le_refl _) _⟩
  rw [HTK.out, List.length_append, HXS.out]
  have e2 : encs Value.string ((itemsB s).take k ++ [y]) = acc ++ [.string y] := by rw [HA.out]; simp [encs]
  rw [e2]
  exact hown'.kept (H.grown_set _ _ _) (.inr (fun e => by have := own_base hown' h e; omega))
 ·rintro W' ⟨⟨v, hv, hr⟩, hB⟩ hd
  rw [hsz0] at hd ⊢
  have hlen : (H.vitems s.data.toList).length = (itemsB s).length := by rw [vitems_eq, List.length_map]
  rw [hlen, List.take_length] at hr
  clear hlen
  have hc := H.cell_of_heap hv
  have hf := H.frozen_of_heap hv
  obtain ⟨A, n0, c0, rfl⟩ : ∃ A n0 c0, v = .slice A n0 c0 := by
   rcases hr.2 with ⟨h1, _⟩ | ⟨g, cap, cur, h1, _⟩
   ·exact ⟨_, _, _, h1⟩
   ·exact ⟨_, _, _, h1⟩
  have hne : ∀ b, (Value.slice A n0 c0).ownBlock = some b → h + 10 ≤ b := fun b e => own_base hr b e
  have HR := Lib.hid hr
  have HV := Lib.hid hv
  have HNE := Lib.hid hne
  clear hr hv hne
  have c2 : (W'.setCell ⟨h, 0, none⟩ (.slice A n0 c0)).cell? ⟨h, 0, none⟩ = some (.slice A n0 c0) := World.cell?_setCell_same' _ _ _ (by rw [hc]; rfl)
  have hd2 : (W'.setCell ⟨h, 0, none⟩ (.slice A n0 c0)).heap[h + 2]? = some (.deferred (some [])) := (Below.heap_setCell W' ⟨h, 0, none⟩ _ (h + 2) (by show h + 2 ≠ h; omega)).trans hd
  have c3 : ((W'.setCell ⟨h, 0, none⟩ (.slice A n0 c0)).putObj (h + 2) (.deferred none)).cell? ⟨h, 0, none⟩ = some (.slice A n0 c0) := (World.cell?_of_block (a := ⟨h, 0, none⟩) (World.putObj_heap_other (by show h ≠ h + 2; omega))).trans c2
  have HC2 := Lib.hid c2
  have HC3 := Lib.hid c3
  clear c2 c3
  gi_wp2_with fail
  refine ⟨by simp, .inl ⟨_, _, rfl, run_takeDeferred hd2, ?_⟩⟩
  refine ⟨.slice A n0 c0, by simp [results, Tryd.results24, go_sem, HC3.out], _, rfl, ?_, ?_⟩
  ·have h1 := HR.out.kept (H.grown_set W' h (.slice A n0 c0)) (by
    cases hvb : (Value.slice A n0 c0).ownBlock with
    | none => exact .inl rfl
    | some b => exact .inr (fun e => by have := HNE.out b hvb; injection e with e; omega))
   have h2 := ownsRow_putObj h1 (.deferred none) hd2 rfl
   have h3 := own_less h2 (show h ≤ h + 10 by omega)
   rw [← HH.out]
   exact Kd.R_of_own h3 (fun _ _ => trivial)
  ·rw [← HH.out]
   exact (hB.setCell (Nat.le_refl _) _).grown (grownBy_putObj' _ _ _) (by have := (Array.getElem?_eq_some_iff.1 hd).1; simp [World.setCell]; omega) (fun k e => by cases e; omega)
theorem field_Items.calls (a0 : ByteArray) (r : List ByteArray) (w : World) (h : field_Items.f a0 = some r) :
  Calls Tryd.prog 24 #[.string a0] w fun e w' => ∃ v0_ : Value, e = .returned (v0_) ∧ Kd.R Kd.string 9 w' w.heap.size (fun _ => True) v0_ r ∧ Below w.heap.size w w' := by
 unfold field_Items.f at h
 split at h
 ·injection h with h
  subst h
  exact (callsIn_wide (n := 9)).1 (items_in 9 a0 w (by assumption))
 ·cases h
end Go.Proofs.YtlmmhcpomnjogaaDoor.P
namespace Go.Proofs.YtlmmhcpomnjogaaDoor.P
open Go.RowKit Go.Proofs.YtlmmhcpomnjogaaDoorW.PrintWords Go.Proofs.YtlmmhcpomnjogaaDoorW.PrintLast Go.Proofs.YtlmmhcpomnjogaaDoorW.PrintMore

def smallB (l : List ByteArray) : Bool := l.all fun x => decide (x.size ≤ 9223372036854775806)
theorem smallB_small {l : List ByteArray} (h : smallB l = true) : H.Small l := fun x hx => by
 unfold smallB at h
 rw [List.all_eq_true] at h
 have := of_decide_eq_true (h x hx)
 omega
def keeps (l1 : List ByteArray) (x : S36) : Bool := !(l1.any (H.sameName x.f0))
def field_Drop.f (l0 : List S36) (l1 : List ByteArray) : Option (List S36) :=
 if smallB (l0.map (·.f0)) && (smallB l1 && (decide (l0.length < 4398046511104) && decide (l1.length < 4398046511104))) then some (l0.filter (keeps l1)) else none

theorem take_filter (l : List S36) (p : S36 → Bool) (k : Nat) (h : k < l.length) : (l.take (k + 1)).filter p = (l.take k).filter p ++ (if p (l.getD k z36) then [l.getD k z36] else []) := by
 rw [List.take_succ_eq_append_getElem h, List.filter_append, List.getD_eq_getElem?_getD, List.getElem?_eq_getElem h]
 simp only [List.filter_cons, List.filter_nil, Option.getD_some]
theorem two_cells (W : World) (c0 c1 : Value) (t : Nat) : (W.alloc (.cells #[c0, c1] t)).cell? ⟨W.heap.size, 0, none⟩ = some c0 := by
 have h := heap_alloc_new W (.cells #[c0, c1] t)
 unfold World.cell?
 rw [h]
 rfl
theorem filter_len (l : List S36) (p : S36 → Bool) (k : Nat) (hl : l.length < 4398046511104) : ((l.take k).filter p).length < 4398046511104 := by
 have h1 := List.length_filter_le p (l.take k)
 have h2 : (l.take k).length ≤ l.length := by simp [List.length_take]; omega
 omega

set_option maxHeartbeats 3200000 in
set_option maxRecDepth 100000 in
theorem field_Drop.calls (A0 : Option Addr) (c0 : Nat) (l0 : List (S36)) (A1 : Option Addr) (c1 : Nat) (l1 : List ByteArray) (r : List (S36)) (w : World) (hr0 : Kd.C k36 w A0 l0.length l0) (hc0 : l0.length ≤ c0) (hr1 : Kd.C Kd.string w A1 l1.length l1) (hc1 : l1.length ≤ c1) (h : field_Drop.f l0 l1 = some r) :
  Calls Tryd.prog 26 #[.slice A0 l0.length c0, .slice A1 l1.length c1] w fun e w' => ∃ v0_ : Value, e = .returned (v0_) ∧ Kd.R k36 36 w' w.heap.size (fun _ => True) v0_ r ∧ Below w.heap.size w w' := by
 unfold field_Drop.f at h
 split at h
 case isFalse => cases h
 case isTrue hs =>
 injection h with h
 subst h
 simp only [Bool.and_eq_true, decide_eq_true_eq] at hs
 obtain ⟨hs0, hs1, hl0, hl1⟩ := hs
 have HS0 := Lib.hid (smallB_small hs0)
 have HS1 := Lib.hid (smallB_small hs1)
 have HR0 := Lib.hid hr0
 have HR1 := Lib.hid hr1
 clear hr0 hr1 hs0 hs1
 have hu := Tryd.underlying36
 go_enter Tryd.func26, Tryd.ntmps26
 go_wp2
 go_loopw [4, 6, 9] (fun v _ i wr => ∃ k : Nat, k ≤ l0.length ∧ i = .int .i64 k ∧ Hid (Kd.R k36 36 wr w.heap.size (fun _ => True) v ((l0.take k).filter (keeps l1))) ∧ Hid (Below w.heap.size w wr)) (fun _ _ i _ => l0.length - (RowKit.intOf i).toNat)
 case atStart => exact ⟨0, Nat.zero_le _, rfl, Lib.hid (Kd.R_nil _ _ _ _ _), Lib.hid (Below.refl _ _)⟩
 case round =>
  obtain ⟨k, hk, rfl, hO, hB⟩ := hrel
  by_cases hlt : k < l0.length
  ·obtain ⟨ad, rfl, hx0, hx1⟩ := at_T36 HR0.out (k : Int) (by omega) (by omega)
   replace hx0 := (hB.out.cell (World.block_lt_of_cell? w _ hx0)).trans hx0
   replace hx1 := (hB.out.cell (World.block_lt_of_cell? w _ hx1)).trans hx1
   rw [Int.toNat_natCast] at hx0 hx1
   have hx : rd_T36 l0 (k : Int) = l0.getD k z36 := by simp [rd_T36]
   rw [hx] at hx0 hx1
   clear hx
   obtain ⟨x, hx⟩ : ∃ x, x = l0.getD k z36 := ⟨_, rfl⟩
   rw [← hx] at hx0 hx1
   have hxs : x.f0.size ≤ 9223372036854775807 := by
    rw [hx, List.getD_eq_getElem?_getD, List.getElem?_eq_getElem hlt]
    exact HS0.out _ (List.mem_map.mpr ⟨_, List.getElem_mem _, rfl⟩)
   have HX := Lib.hid hx
   clear hx
   have hb1 := below_alloc hB.out (.cells #[.string x.f0, .string x.f1] 36)
   have K := Lib.hid (H.has_any l1 x.f0 A1 c1 (wr.alloc (.cells #[.string x.f0, .string x.f1] 36)) wr.heap.size (by simp) HS1.out hxs (by omega) (Kd.C_below HR1.out hb1) (two_cells _ _ _ _))
   have HB1 := Lib.hid hb1
   clear hb1
   have hp : keeps l1 x = !(l1.any (H.sameName x.f0)) := rfl
   have hcells : ∀ w', Below (wr.heap.size + 1) (wr.alloc (.cells #[.string x.f0, .string x.f1] 36)) w' → w'.cell? ⟨wr.heap.size, 0, none⟩ = some (.string x.f0) ∧ w'.cell? ⟨wr.heap.size, 1, none⟩ = some (.string x.f1) := fun w' hb => by
    have g := heap_alloc_new wr (.cells #[.string x.f0, .string x.f1] 36)
    refine ⟨(hb.cell (p := ⟨wr.heap.size, 0, none⟩) (by simp)).trans ?_, (hb.cell (p := ⟨wr.heap.size, 1, none⟩) (by simp)).trans ?_⟩
    ·unfold World.cell?; rw [g]; rfl
    ·unfold World.cell?; rw [g]; rfl
   have HCe := Lib.hid hcells
   clear hcells
   have htf := take_filter l0 (keeps l1) k hlt
   have hfl := filter_len l0 (keeps l1) k hl0
   rw [← HX.out] at htf
   obtain ⟨acc, hacc⟩ : ∃ acc, acc = (l0.take k).filter (keeps l1) := ⟨_, rfl⟩
   rw [← hacc] at htf hO hfl
   have HTF := Lib.hid htf
   clear htf hacc
   cases hv : l1.any (H.sameName x.f0) with
   | true =>
    rw [hv] at K hp
    have HP := Lib.hid hp
    clear hv hp
    go_wp2_with fail
    refine K.out.mono ?_; rintro e w' ⟨rfl, hB2⟩
    have hB3 := hB2.mono (show wr.heap.size + 1 ≤ (wr.alloc (.cells #[.string x.f0, .string x.f1] 36)).heap.size by simp)
    go_wp2_with fail
    go_roundw
    case rel => exact ⟨k + 1, by omega, by go_num, Lib.hid (by
      rw [HTF.out, HP.out]
      simp only [Bool.not_true, Bool.false_eq_true, if_false, List.append_nil]
      exact Kd.R_below (Kd.R_alloc hO.out _) hB2), Lib.hid (HB1.out.trans (hB2.mono HB1.out.size))⟩
    case measure => simp [RowKit.intOf]; omega
   | false =>
    rw [hv] at K hp
    have HP := Lib.hid hp
    clear hv hp
    go_wp2_with fail
    refine K.out.mono ?_; rintro e w' ⟨rfl, hB2⟩
    obtain ⟨g0, g1⟩ := HCe.out w' (by simpa using hB2)
    have hO2 := Lib.hid (Kd.R_below (Kd.R_alloc hO.out (.cells #[.string x.f0, .string x.f1] 36)) hB2)
    have hBn := Lib.hid (HB1.out.trans (hB2.mono HB1.out.size))
    clear hB2
    go_wp2_with (first | ((with_reducible refine gate_builtin (b := .append) (xs := #[.tmp 17, .tmp 19]) rfl ?_); at_builtin; refine Kd.R_append k36 (w0 := w) w.heap.size rfl (.tmp 17) (.tmp 19) 26 36 (.agg #[(.string ⟨#[]⟩), (.string ⟨#[]⟩)]) 32 rfl Tryd.underlying26 info36 rfl (by decide) (by omega) _ acc x [.string x.f0, .string x.f1] (fun _ => True) (fun _ => False) rfl rfl ?aP (fun _ hk => hk.elim) ?aF ?aO ?aB ?aS ?aL ?_; (case aP => exact k36_mkM _ _ _ x); (case aB => exact (by repeat (first | (with_reducible first | exact hBn.out | apply below_alloc | apply pw_below_drewN | apply below_drew1) | exact hBn.out))); (case aF => exact (fun _ _ => trivial)); (case aO => exact (by (with_reducible repeat (first | apply Kd.R_alloc | apply Kd.R_drewN | apply Kd.R_drew)); exact hO2.out)); (case aS => exact (below_size (by repeat (first | (with_reducible first | exact hBn.out | apply below_alloc | apply pw_below_drewN | apply below_drew1) | exact hBn.out)))); (case aL => omega); intro v137 w19 ho hb hg hat; have HO138 := Lib.hid ho; have HB138 := Lib.hid hb; clear ho hb hg hat))
    go_roundw
    case rel => exact ⟨k + 1, by omega, by go_num, Lib.hid (by
      rw [HTF.out, HP.out]
      simp only [Bool.not_false, if_true]
      exact HO138.out), Lib.hid HB138.out⟩
    case measure => simp [RowKit.intOf]; omega
  ·go_wp2
   go_ret
   have e : l0.take k = l0 := List.take_of_length_le (by omega)
   have hO' := hO.out
   rw [e] at hO'
   exact ⟨_, rfl, hO', hB.out⟩
end Go.Proofs.YtlmmhcpomnjogaaDoor.P
namespace Go.Proofs.YtlmmhcpomnjogaaDoor.H
open Go.RowKit
theorem tab_below {P : Program} {n : String} {g : Nat} {k : IntKind} {zs : List Int} {w w' : World} (hg : P.globalNamed n = some g) (h : Lib.TabIs P w n k zs) (hb : Below w.heap.size w w') : Lib.TabIs P w' n k zs := by
 unfold Lib.TabIs World.var? at h ⊢
 rw [hg] at h ⊢
 simp only [Option.bind_some] at h ⊢
 have hlt : g < w.heap.size := by
  rcases Nat.lt_or_ge g w.heap.size with h' | h'
  ·exact h'
  ·rw [Array.getElem?_eq_none h'] at h; cases h
 rw [hb.block g hlt]
 exact h
structure GlobOk (w : World) : Prop where
 tab : Lib.TabIs Tryd.prog w "internal/strconv.uint64pow10" .u64 Lib.pow10Tab
 max : ∃ m, w.cell? ⟨3, 0, none⟩ = some (.int .i64 m)
theorem GlobOk.below {w w' : World} (h : GlobOk w) (hb : Below w.heap.size w w') : GlobOk w' :=
 ⟨tab_below (g := 0) (by kernel_rfl) h.tab hb, by
  obtain ⟨m, hm⟩ := h.max
  refine ⟨m, ?_⟩
  have hlt := World.block_lt_of_cell? _ _ hm
  unfold World.cell? at hm ⊢
  rw [hb.block 3 hlt]
  exact hm⟩
theorem laidMet_drop {P : Program} {w : World} : ∀ (i : Nat) (l : List (String × DataW Unit)), laidMet P l w → laidMet P (l.drop i) w
 | 0, _, h => h
 | _ + 1, [], h => h
 | i + 1, _ :: l, h => laidMet_drop i l h.tail
theorem GlobOk.of_laid {w : World} {l : List (String × DataW Unit)} (i : Nat) (hsh : w.ShapedOpen Tryd.prog) (h : laidMet Tryd.prog l w) (hl : l[i]? = some ("internal/strconv.uint64pow10", Lib.tabData .u64 Lib.pow10Tab)) : GlobOk w := by
 have h2 := laidMet_drop i l h
 obtain ⟨hi, he⟩ := List.getElem?_eq_some_iff.1 hl
 rw [List.drop_eq_getElem_cons hi, he] at h2
 refine ⟨?_, Go.Proofs.cell_of_shapedOpen_int (P := Tryd.prog) (g := 3) (t := 3) (zero := #[.int .i64 0]) hsh (of_decide_eq_true (by kernel_rfl)) (by kernel_rfl) rfl (by kernel_rfl) (by kernel_rfl) Tryd.underlying3⟩
 exact Lib.tabIs_of_head (g := 0) (t := 73) (e := 56) (n := 20) (by kernel_rfl) (by kernel_rfl) (by kernel_rfl) (by kernel_rfl) (by kernel_rfl) (by kernel_rfl) h2
end Go.Proofs.YtlmmhcpomnjogaaDoor.H
namespace Go.Proofs.YtlmmhcpomnjogaaDoor.P
theorem glob_below {w w' : Go.World} (h : H.GlobOk w) (hb : Go.RowKit.Below w.heap.size w w') : H.GlobOk w' := h.below hb
end Go.Proofs.YtlmmhcpomnjogaaDoor.P
namespace Go.Proofs.YtlmmhcpomnjogaaDoor.H
open Go.RowKit Go.Shelf Go.Lib
theorem fits_any (n : Int) (w : World) : Calls Tryd.prog 16 #[.int .i64 n] w fun e w' => e = .returned (.bool (decide (0 ≤ n) && decide (n ≤ 9007199254740992))) ∧ w = w' := by
 by_cases h : 0 ≤ n
 ·have hb : decide (n ≥ 0) = true := decide_eq_true h
  go_enter Tryd.func16, Tryd.ntmps16
  go_wp2
  all_goals
   go_ret
   exact ⟨by simp [h], rfl⟩
 ·have hb : decide (n ≥ 0) = false := decide_eq_false h
  go_enter Tryd.func16, Tryd.ntmps16
  go_wp2
  all_goals
   go_ret
   exact ⟨by simp [h], rfl⟩
theorem below_grow (w : World) (k : Nat) (os : Array Obj) : Below w.heap.size w (Sort.grow (w.drewN k) os) :=
 ⟨rfl, rfl, rfl, by show w.heap.size ≤ (w.heap ++ os).size; rw [Array.size_append]; omega, fun j hj => by show (w.heap ++ os)[j]? = w.heap[j]?; exact Array.getElem?_append_left hj⟩
def text10 (n : Int) : ByteArray := if 0 ≤ n ∧ n ≤ 9007199254740992 then ⟨(Lib.itoa n).toArray⟩ else ⟨#[]⟩
theorem text10_any (n : Int) (w : World) (hG : GlobOk w) (h0 : -9223372036854775808 ≤ n) (h1 : n ≤ 9223372036854775807) : Calls Tryd.prog 12 #[.int .i64 n, .int .i64 10] w fun e w' => e = .returned (.string (text10 n)) ∧ Below w.heap.size w w' := by
 have K1 := Lib.hid (fits_any n w)
 by_cases hf : 0 ≤ n ∧ n ≤ 9007199254740992
 ·have e1 : (decide (0 ≤ n) && decide (n ≤ 9007199254740992)) = true := by simp [hf]
  rw [e1] at K1
  have e2 : text10 n = ⟨(Lib.itoa n).toArray⟩ := by unfold text10; rw [if_pos hf]
  rw [e2]
  have K2 := Lib.hid (Tryd.strconv_FormatInt_10 n h0 h1 w hG.tab)
  generalize (⟨(Lib.itoa n).toArray⟩ : ByteArray) = r at K2 ⊢
  clear e1 e2 hf hG
  go_enter Tryd.func12, Tryd.ntmps12
  go_wp2_with fail
  refine K1.out.mono ?_; rintro e w' ⟨rfl, rfl⟩
  go_wp2_with fail
  refine K2.out.mono ?_; rintro e w' ⟨rfl, hk⟩
  have HK := Lib.hid hk
  clear hk
  go_wp2_with fail
  go_ret
  refine ⟨rfl, ?_⟩
  obtain ⟨k, os, rfl⟩ := HK.out
  exact below_grow _ k os
 ·have e1 : (decide (0 ≤ n) && decide (n ≤ 9007199254740992)) = false := by
   rcases Classical.not_and_iff_not_or_not.1 hf with h | h <;> simp [h]
  rw [e1] at K1
  have e2 : text10 n = ⟨#[]⟩ := by unfold text10; rw [if_neg hf]
  rw [e2]
  clear e1 e2 hf hG
  go_enter Tryd.func12, Tryd.ntmps12
  go_wp2_with fail
  refine K1.out.mono ?_; rintro e w' ⟨rfl, rfl⟩
  go_wp2_with fail
  go_ret
  exact ⟨rfl, Below.refl _ _⟩
end Go.Proofs.YtlmmhcpomnjogaaDoor.H
namespace Go.Proofs.YtlmmhcpomnjogaaDoor.P
open Go.RowKit
def num_Text.f (a0 : Int) (a1 : Int) : Option ByteArray := if a1 = 10 then (if -9223372036854775808 ≤ a0 then if a0 ≤ 9223372036854775807 then some (H.text10 a0) else none else none) else none
theorem num_Text.calls (a0 : Int) (a1 : Int) (r : ByteArray) (w : World) (hG_ : H.GlobOk w) (h : num_Text.f a0 a1 = some r) :
  Calls Tryd.prog 12 #[.int .i64 a0, .int .i64 a1] w fun e w' => e = .returned (.string r) ∧ Below w.heap.size w w' := by
 unfold num_Text.f at h
 split at h
 ·rename_i e
  subst e
  split at h
  ·split at h
   ·injection h with h
    subst h
    exact H.text10_any a0 w hG_ (by assumption) (by assumption)
   ·cases h
  ·cases h
 ·cases h
end Go.Proofs.YtlmmhcpomnjogaaDoor.P
namespace Go.Proofs.YtlmmhcpomnjogaaDoor.P
open Go.RowKit Go.Shelf Go.Lib Go.Proofs.YtlmmhcpomnjogaaDoorW.PrintWords Go.Proofs.YtlmmhcpomnjogaaDoorW.PrintLast Go.Proofs.YtlmmhcpomnjogaaDoorW.PrintMore
def joinB (l : List ByteArray) (sep : ByteArray) : ByteArray := ⟨(Lib.join (l.map (·.data.toList)) sep.data.toList).toArray⟩
def strings_Join.f (l0 : List ByteArray) (a1 : ByteArray) : Option ByteArray := if l0.length ≤ 140737488355328 ∧ (joinB l0 a1).size ≤ 140737488355328 then some (joinB l0 a1) else none
theorem cells_of_row {w : World} {A : Option Addr} {l : List ByteArray} (h : Kd.C Kd.string w A l.length l) (hp : 0 < l.length) : ∃ bk o, A = some ⟨bk, o, none⟩ ∧ bk < w.heap.size ∧ ∀ (j : Nat) x, l[j]? = some x → w.cell? ⟨bk, o + j, none⟩ = some (.string x) := by
 obtain ⟨_, _, h3⟩ := h
 obtain ⟨ad, rfl, hc⟩ := h3 hp
 have g : ∀ (j : Nat) x, l[j]? = some x → w.cell? (ad.add j) = some (.string x) := fun j x hj => by
  obtain ⟨c, _, hk, hi⟩ := hc j x hj
  have hk' : c = [.string x] := hk
  subst hk'
  have := hi 0 _ rfl
  have e : j * Kd.string.sz + 0 = j := by show j * 1 + 0 = j; omega
  rwa [e] at this
 have h0 := g 0 l[0] (List.getElem?_eq_getElem hp)
 obtain ⟨b, o, sp⟩ := ad
 cases sp with
 | some p =>
  exfalso
  have e : (⟨b, o, some p⟩ : Addr).add 0 = ⟨b, o, some p⟩ := rfl
  rw [e] at h0
  unfold World.cell? at h0
  split at h0
  ·simp at h0
  ·cases h0
 | none =>
  have e : ∀ j : Nat, (⟨b, o, none⟩ : Addr).add j = ⟨b, o + j, none⟩ := fun j => by unfold Addr.add; split <;> simp_all
  refine ⟨b, o, rfl, World.block_lt_of_cell? _ _ h0, fun j x hj => ?_⟩
  rw [← e]
  exact g j x hj
theorem strings_Join.calls (A0 : Option Addr) (c0 : Nat) (l0 : List ByteArray) (a1 : ByteArray) (r : ByteArray) (w : World) (hr0 : Kd.C Kd.string w A0 l0.length l0) (hc0 : l0.length ≤ c0) (h : strings_Join.f l0 a1 = some r) :
  Calls Tryd.prog 38 #[.slice A0 l0.length c0, .string a1] w fun e w' => e = .returned (.string r) ∧ Below w.heap.size w w' := by
 unfold strings_Join.f at h
 split at h
 case isFalse => cases h
 case isTrue hs =>
 injection h with h
 subst h
 by_cases hp : 0 < l0.length
 ·obtain ⟨bk, o, rfl, hb, hcell⟩ := cells_of_row hr0 hp
  refine (Tryd.strings_Join bk o c0 l0 a1 w hcell hb hs.1 hc0 (by have := hs.2; unfold joinB at this; rwa [show ∀ l : List UInt8, (⟨l.toArray⟩ : ByteArray).size = l.length from fun l => by show l.toArray.size = _; rw [List.size_toArray]] at this)).mono ?_
  rintro e w' ⟨rfl, hb⟩
  exact ⟨rfl, hb⟩
 ·obtain rfl : l0 = [] := List.eq_nil_of_length_eq_zero (by omega)
  refine (Tryd.strings_Join_none A0 c0 a1 w).mono ?_
  rintro e w' ⟨rfl, rfl⟩
  exact ⟨rfl, Below.refl _ _⟩
end Go.Proofs.YtlmmhcpomnjogaaDoor.P
namespace Go.Proofs.YtlmmhcpomnjogaaDoor.P
open Go.RowKit Go.Shelf Go.Lib Go.Proofs.YtlmmhcpomnjogaaDoorW.PrintWords Go.Proofs.YtlmmhcpomnjogaaDoorW.PrintLast Go.Proofs.YtlmmhcpomnjogaaDoorW.PrintMore
open H (ret_bool ret_int)
def badF (x : S36) : Bool := !Sp.nameB x.f0.data.toList || !Sp.valB x.f1.data.toList
theorem odd_any (n v : ByteArray) (w : World) (hn : n.size ≤ 9223372036854775807) (hv : v.size ≤ 9223372036854775807) :
  Calls Tryd.prog 49 #[.agg #[.string n, .string v]] w fun e w' => e = .returned (.bool (!Sp.nameB n.data.toList || !Sp.valB v.data.toList)) ∧ Below w.heap.size w w' := by
 have KN := fun W => Lib.hid (H.name_any n W hn)
 have KV := fun W => Lib.hid (H.value_any v W hv)
 generalize Sp.nameB n.data.toList = b at KN ⊢
 generalize Sp.valB v.data.toList = c at KV ⊢
 have HB0 := Lib.hid (Below.refl w.heap.size w)
 cases b
 ·go_enter Tryd.func49, Tryd.ntmps49
  go_wp2_with fail
  refine (KN _).out.mono ?_; rintro e w' ⟨rfl, rfl⟩
  go_wp2_with fail
  go_ret
  exact ⟨rfl, below_alloc HB0.out _⟩
 ·go_enter Tryd.func49, Tryd.ntmps49
  go_wp2_with fail
  refine (KN _).out.mono ?_; rintro e w' ⟨rfl, rfl⟩
  go_wp2_with fail
  refine (KV _).out.mono ?_; rintro e w' ⟨rfl, hB⟩
  go_wp2_with fail
  go_ret
  exact ⟨ret_bool (by simp), (below_alloc HB0.out _).trans (hB.mono (by simp))⟩
def idxQ {α : Type} (p : α → Bool) (l : List α) : Int := match l.findIdx? p with | some k => (k : Int) | none => -1
theorem idxQ_at {α : Type} (d : α) (p : α → Bool) (l : List α) (k : Nat) (hk : k < l.length) (h : ∀ j, j < k → p (l.getD j d) = false) (hp : p (l.getD k d) = true) : idxQ p l = k := by
 have e : l.findIdx? p = some k := by
  rw [List.findIdx?_eq_some_iff_getElem]
  refine ⟨hk, ?_, fun j hj => ?_⟩
  ·rw [List.getD_eq_getElem?_getD, List.getElem?_eq_getElem hk] at hp
   exact hp
  ·have := h j hj
   rw [List.getD_eq_getElem?_getD, List.getElem?_eq_getElem (by omega)] at this
   simpa using this
 unfold idxQ
 rw [e]
theorem idxQ_none {α : Type} (d : α) (p : α → Bool) (l : List α) (h : ∀ j, j < l.length → p (l.getD j d) = false) : idxQ p l = -1 := by
 have e : l.findIdx? p = none := by
  rw [List.findIdx?_eq_none_iff]
  intro x hx
  obtain ⟨j, hj, rfl⟩ := List.getElem_of_mem hx
  have := h j hj
  rw [List.getD_eq_getElem?_getD, List.getElem?_eq_getElem hj] at this
  exact this
 unfold idxQ
 rw [e]
theorem idxQ_any {α : Type} (p : α → Bool) (l : List α) : decide (0 ≤ idxQ p l) = l.any p := by
 unfold idxQ
 cases e : l.findIdx? p with
 | none =>
  rw [List.findIdx?_eq_none_iff] at e
  have : l.any p = false := by rw [List.any_eq_false]; intro x hx; rw [e x hx]; exact Bool.false_ne_true
  rw [this]; rfl
 | some k =>
  rw [List.findIdx?_eq_some_iff_getElem] at e
  obtain ⟨hk, hp, _⟩ := e
  have : l.any p = true := by rw [List.any_eq_true]; exact ⟨_, List.getElem_mem hk, hp⟩
  rw [this]
  simp
def smallF (l : List S36) : Bool := l.all fun x => decide (x.f0.size ≤ 9223372036854775806) && decide (x.f1.size ≤ 9223372036854775806)
theorem smallF_at {l : List S36} (h : smallF l = true) (k : Nat) (hk : k < l.length) : (l.getD k z36).f0.size ≤ 9223372036854775807 ∧ (l.getD k z36).f1.size ≤ 9223372036854775807 := by
 unfold smallF at h
 rw [List.all_eq_true] at h
 rw [List.getD_eq_getElem?_getD, List.getElem?_eq_getElem hk]
 have := h _ (List.getElem_mem hk)
 simp only [Bool.and_eq_true, decide_eq_true_eq] at this
 simp only [Option.getD_some]
 omega
set_option maxHeartbeats 1600000 in
theorem idxodd_any (l : List S36) (A : Option Addr) (c : Nat) (w : World) (hl : smallF l = true) (hn : l.length ≤ 9223372036854775807)
  (hr : Kd.C k36 w A l.length l) :
  Calls Tryd.prog 67 #[.slice A l.length c, .func (.func 49) #[] #[]] w fun e w' => e = .returned (.int .i64 (idxQ badF l)) ∧ Below w.heap.size w w' := by
 have HR := Lib.hid hr
 have HL := Lib.hid hl
 clear hr hl
 go_enter Tryd.func67, Tryd.ntmps67
 go_wp2
 go_loopw [5, 8] (fun _ i wr => ∃ k : Nat, k ≤ l.length ∧ i = .int .i64 k ∧ Hid (∀ j, j < k → badF (l.getD j z36) = false) ∧ Hid (Below w.heap.size w wr)) (fun _ i _ => l.length - (RowKit.intOf i).toNat)
 case atStart => exact ⟨0, Nat.zero_le _, rfl, Lib.hid (fun j hj => by omega), Lib.hid (Below.refl _ _)⟩
 case round =>
  obtain ⟨k, hk, rfl, hp, hB⟩ := hrel
  by_cases hlt : k < l.length
  ·obtain ⟨ad, rfl, hx0, hx1⟩ := at_T36 HR.out (k : Int) (by omega) (by omega)
   replace hx0 := (hB.out.cell (World.block_lt_of_cell? w _ hx0)).trans hx0
   replace hx1 := (hB.out.cell (World.block_lt_of_cell? w _ hx1)).trans hx1
   rw [Int.toNat_natCast] at hx0 hx1
   have hx : rd_T36 l (k : Int) = l.getD k z36 := by simp [rd_T36]
   rw [hx] at hx0 hx1
   clear hx
   obtain ⟨x, hx⟩ : ∃ x, x = l.getD k z36 := ⟨_, rfl⟩
   rw [← hx] at hx0 hx1
   have hxs := smallF_at HL.out k hlt
   rw [← hx] at hxs
   have HX := Lib.hid hx
   clear hx
   have K := Lib.hid (odd_any x.f0 x.f1 wr hxs.1 hxs.2)
   have hb : badF x = (!Sp.nameB x.f0.data.toList || !Sp.valB x.f1.data.toList) := rfl
   rw [← hb] at K
   clear hb hxs
   cases hv : badF x with
   | true =>
    rw [hv] at K
    have HV := Lib.hid hv
    clear hv
    go_wp2_with fail
    refine K.out.mono ?_; rintro e w' ⟨rfl, hB2⟩
    go_wp2_with fail
    go_ret
    exact ⟨ret_int (idxQ_at z36 _ _ k hlt hp.out (by rw [← HX.out]; exact HV.out)).symm, hB.out.trans (hB2.mono hB.out.size)⟩
   | false =>
    rw [hv] at K
    have HV := Lib.hid hv
    clear hv
    go_wp2_with fail
    refine K.out.mono ?_; rintro e w' ⟨rfl, hB2⟩
    go_wp2_with fail
    go_roundw
    case rel => exact ⟨k + 1, by omega, by go_num, Lib.hid (fun j hj => by
     by_cases e : j = k
     ·subst e; rw [← HX.out]; exact HV.out
     ·exact hp.out j (by omega)), Lib.hid (hB.out.trans (hB2.mono hB.out.size))⟩
    case measure => simp [RowKit.intOf]; omega
  ·go_wp2
   go_ret
   exact ⟨ret_int (idxQ_none z36 _ _ (fun j hj => hp.out j (by omega))).symm, hB.out⟩
theorem anyodd_any (l : List S36) (A : Option Addr) (c : Nat) (w : World) (hl : smallF l = true) (hn : l.length ≤ 9223372036854775807)
  (hr : Kd.C k36 w A l.length l) :
  Calls Tryd.prog 52 #[.slice A l.length c, .func (.func 49) #[] #[]] w fun e w' => e = .returned (.bool (l.any badF)) ∧ Below w.heap.size w w' := by
 rw [← idxQ_any]
 have K := Lib.hid (idxodd_any l A c w hl hn hr)
 generalize idxQ badF l = r at K ⊢
 clear hr hl
 go_enter Tryd.func52, Tryd.ntmps52
 go_wp2_with fail
 refine K.out.mono ?_; rintro e w' ⟨rfl, hB⟩
 go_wp2_with fail
 go_ret
 exact ⟨rfl, hB⟩
end Go.Proofs.YtlmmhcpomnjogaaDoor.P
namespace Go.Proofs.YtlmmhcpomnjogaaDoor.P
open Go.RowKit Go.Shelf Go.Lib Go.Proofs.YtlmmhcpomnjogaaDoorW.PrintWords Go.Proofs.YtlmmhcpomnjogaaDoorW.PrintLast Go.Proofs.YtlmmhcpomnjogaaDoorW.PrintMore
open H (ret_bool ret_int)
def head_Right.f (k : Nat) (a0_0 : ByteArray) (a0_1 : ByteArray) (a0_2 : Int) (a0_3 : ByteArray) (a0_4 : Int) (l0_5 : List S36) (a1 : Bool) : Option Bool :=
 if smallF l0_5 = true then
  if a0_4 < 0 then some false else if a0_4 > 1 then some false else if (l0_5.length : Int) > 20 then some false else if l0_5.any badF = true then some false else
  if a1 = true then
   if a0_0.size + a0_1.size ≤ 9223372036854775807 then
    if (a0_0 ++ a0_1).toList = ([] : List UInt8) then
     (head_status.f a0_2).bind fun s => if s = true then head_reason.f k a0_3 else some false
    else some false
   else none
  else
   (field_Name.f a0_0).bind fun n => if n = true then
    (head_target.f k a0_1).bind fun t => if t = true then if a0_2 = 0 then some (a0_3.toList == ([] : List UInt8)) else some false else some false
   else some false
 else none
theorem head_Right.mono : ∀ a0_0 a0_1 a0_2 a0_3 a0_4 l0_5 a1 k, LeO (head_Right.f k a0_0 a0_1 a0_2 a0_3 a0_4 l0_5 a1) (head_Right.f (k + 1) a0_0 a0_1 a0_2 a0_3 a0_4 l0_5 a1) := by
 intro a0_0 a0_1 a0_2 a0_3 a0_4 l0_5 a1 k
 unfold head_Right.f
 refine .ite (.ite (.refl _) (.ite (.refl _) (.ite (.refl _) (.ite (.refl _) (.ite ?_ ?_))))) (.refl _)
 ·exact .ite (.ite (.bind (.refl _) fun s => .ite (head_reason.mono _ _) (.refl _)) (.refl _)) (.refl _)
 ·exact .bind (.refl _) fun n => .ite (.bind (head_target.mono _ _) fun t => .refl _) (.refl _)
set_option maxHeartbeats 3200000 in
set_option maxRecDepth 100000 in
theorem head_Right.calls (k : Nat) (a0_0 : ByteArray) (a0_1 : ByteArray) (a0_2 : Int) (a0_3 : ByteArray) (a0_4 : Int) (A0_5 : Option Addr) (c0_5 : Nat) (l0_5 : List S36) (a1 : Bool) (r : Bool) (w : World) (hr0_5 : Kd.C k36 w A0_5 l0_5.length l0_5) (hc0_5 : l0_5.length ≤ c0_5) (h : head_Right.f k a0_0 a0_1 a0_2 a0_3 a0_4 l0_5 a1 = some r) :
  Calls Tryd.prog 37 #[.agg #[.string a0_0, .string a0_1, .int .i64 a0_2, .string a0_3, .int .i64 a0_4, .slice A0_5 l0_5.length c0_5], .bool a1] w fun e w' => e = .returned (.bool r) ∧ Below w.heap.size w w' := by
 unfold head_Right.f at h
 split at h
 case isFalse => cases h
 case isTrue hs =>
 have hn : l0_5.length ≤ 9223372036854775807 := hr0_5.2.1
 have HB0 := Lib.hid (below_alloc (Below.refl w.heap.size w) (.cells #[.string a0_0, .string a0_1, .int .i64 a0_2, .string a0_3, .int .i64 a0_4, .slice A0_5 l0_5.length c0_5] 28))
 have K := Lib.hid (anyodd_any l0_5 A0_5 c0_5 (w.alloc (.cells #[.string a0_0, .string a0_1, .int .i64 a0_2, .string a0_3, .int .i64 a0_4, .slice A0_5 l0_5.length c0_5] 28)) hs hn (Kd.C_below hr0_5 HB0.out))
 have HCe := Lib.hid (show ∀ w', Below (w.heap.size + 1) (w.alloc (.cells #[.string a0_0, .string a0_1, .int .i64 a0_2, .string a0_3, .int .i64 a0_4, .slice A0_5 l0_5.length c0_5] 28)) w' → w'.cell? ⟨w.heap.size, 0, none⟩ = some (.string a0_0) ∧ w'.cell? ⟨w.heap.size, 1, none⟩ = some (.string a0_1) ∧ w'.cell? ⟨w.heap.size, 2, none⟩ = some (.int .i64 a0_2) ∧ w'.cell? ⟨w.heap.size, 3, none⟩ = some (.string a0_3) from fun w' hb => by
    have g := heap_alloc_new w (.cells #[.string a0_0, .string a0_1, .int .i64 a0_2, .string a0_3, .int .i64 a0_4, .slice A0_5 l0_5.length c0_5] 28)
    refine ⟨(hb.cell (p := ⟨w.heap.size, 0, none⟩) (by simp)).trans ?_, (hb.cell (p := ⟨w.heap.size, 1, none⟩) (by simp)).trans ?_, (hb.cell (p := ⟨w.heap.size, 2, none⟩) (by simp)).trans ?_, (hb.cell (p := ⟨w.heap.size, 3, none⟩) (by simp)).trans ?_⟩
    ·unfold World.cell?; rw [g]; rfl
    ·unfold World.cell?; rw [g]; rfl
    ·unfold World.cell?; rw [g]; rfl
    ·unfold World.cell?; rw [g]; rfl)
 clear hr0_5 hs
 split at h
 case isTrue c1 =>
  injection h with h; subst h
  have d1 : decide (a0_4 < 0) = true := decide_eq_true c1
  clear K c1
  go_enter Tryd.func37, Tryd.ntmps37
  go_wp2_with fail
  go_ret
  exact ⟨rfl, HB0.out⟩
 case isFalse c1 =>
 have d1 : decide (a0_4 < 0) = false := decide_eq_false c1
 split at h
 case isTrue c2 =>
  injection h with h; subst h
  have d2 : decide (a0_4 > 1) = true := decide_eq_true c2
  clear K c1 c2
  go_enter Tryd.func37, Tryd.ntmps37
  go_wp2_with fail
  go_ret
  exact ⟨rfl, HB0.out⟩
 case isFalse c2 =>
 have d2 : decide (a0_4 > 1) = false := decide_eq_false c2
 split at h
 case isTrue c3 =>
  injection h with h; subst h
  have d3 : decide ((l0_5.length : Int) > 20) = true := decide_eq_true c3
  clear K c1 c2 c3
  go_enter Tryd.func37, Tryd.ntmps37
  go_wp2_with fail
  go_ret
  exact ⟨rfl, HB0.out⟩
 case isFalse c3 =>
 have d3 : decide ((l0_5.length : Int) > 20) = false := decide_eq_false c3
 clear c1 c2 c3
 split at h
 case isTrue c4 =>
  injection h with h; subst h
  rw [c4] at K
  clear c4
  go_enter Tryd.func37, Tryd.ntmps37
  go_wp2_with fail
  refine K.out.mono ?_; rintro e w' ⟨rfl, hB2⟩
  go_wp2_with fail
  go_ret
  exact ⟨rfl, HB0.out.trans (hB2.mono (by simp))⟩
 case isFalse c4 =>
 have c4' : l0_5.any badF = false := by simpa using c4
 rw [c4'] at K
 clear c4 c4'
 split at h
 case isTrue c5 =>
  subst c5
  split at h
  case isFalse => cases h
  case isTrue hs2 =>
  split at h
  case isFalse c6 =>
   injection h with h; subst h
   have d6 : ((a0_0 ++ a0_1).toList == ([] : List UInt8)) = false := by simpa using c6
   clear c6
   go_enter Tryd.func37, Tryd.ntmps37
   go_wp2_with fail
   refine K.out.mono ?_; rintro e w' ⟨rfl, hB2⟩
   obtain ⟨g0, g1, g2, g3⟩ := HCe.out w' (by simpa using hB2)
   have HB2 := Lib.hid hB2
   clear hB2
   go_wp2_with fail
   go_ret
   exact ⟨rfl, HB0.out.trans (HB2.out.mono (by simp))⟩
  case isTrue c6 =>
   have d6 : ((a0_0 ++ a0_1).toList == ([] : List UInt8)) = true := by simpa using c6
   clear c6
   obtain ⟨s, hs, h⟩ := Option.bind_eq_some_iff.1 h
   have KS := fun W => Lib.hid (head_status.calls a0_2 s W hs)
   clear hs
   cases s with
   | false =>
    rw [if_neg (by decide)] at h
    injection h with h; subst h
    go_enter Tryd.func37, Tryd.ntmps37
    go_wp2_with fail
    refine K.out.mono ?_; rintro e w' ⟨rfl, hB2⟩
    obtain ⟨g0, g1, g2, g3⟩ := HCe.out w' (by simpa using hB2)
    have HB2 := Lib.hid hB2
    clear hB2
    go_wp2_with fail
    refine (KS _).out.mono ?_; rintro e w' ⟨rfl, ⟨m, rfl⟩⟩
    go_wp2_with fail
    go_ret
    exact ⟨rfl, (by have Z := HB0.out.trans (HB2.out.mono (by simp)); (repeat (first | exact Z | apply pw_below_drewN | apply below_drew1)))⟩
   | true =>
    rw [if_pos rfl] at h
    have KR := fun W => Lib.hid (head_reason.calls k a0_3 r W h)
    clear h
    go_enter Tryd.func37, Tryd.ntmps37
    go_wp2_with fail
    refine K.out.mono ?_; rintro e w' ⟨rfl, hB2⟩
    obtain ⟨g0, g1, g2, g3⟩ := HCe.out w' (by simpa using hB2)
    have HB2 := Lib.hid hB2
    clear hB2
    go_wp2_with fail
    refine (KS _).out.mono ?_; rintro e w' ⟨rfl, ⟨m, rfl⟩⟩
    go_wp2_with fail
    refine (KR _).out.mono ?_; rintro e w' ⟨rfl, ⟨m', rfl⟩⟩
    go_wp2_with fail
    go_ret
    exact ⟨ret_bool (by simp), (by have Z := HB0.out.trans (HB2.out.mono (by simp)); (repeat (first | exact Z | apply pw_below_drewN | apply below_drew1)))⟩
 case isFalse c5 =>
  have c5' : a1 = false := by simpa using c5
  subst c5'
  obtain ⟨n, hn2, h⟩ := Option.bind_eq_some_iff.1 h
  have KN := fun W => Lib.hid (field_Name.calls a0_0 n W hn2)
  clear hn2 c5
  cases n with
  | false =>
   rw [if_neg (by decide)] at h
   injection h with h; subst h
   go_enter Tryd.func37, Tryd.ntmps37
   go_wp2_with fail
   refine K.out.mono ?_; rintro e w' ⟨rfl, hB2⟩
   obtain ⟨g0, g1, g2, g3⟩ := HCe.out w' (by simpa using hB2)
   have HB2 := Lib.hid hB2
   clear hB2
   go_wp2_with fail
   refine (KN _).out.mono ?_; rintro e w' ⟨rfl, ⟨m, rfl⟩⟩
   go_wp2_with fail
   go_ret
   exact ⟨rfl, (by have Z := HB0.out.trans (HB2.out.mono (by simp)); (repeat (first | exact Z | apply pw_below_drewN | apply below_drew1)))⟩
  | true =>
   rw [if_pos rfl] at h
   obtain ⟨t, ht, h⟩ := Option.bind_eq_some_iff.1 h
   have KT := fun W => Lib.hid (head_target.calls k a0_1 t W ht)
   clear ht
   cases t with
   | false =>
    rw [if_neg (by decide)] at h
    injection h with h; subst h
    go_enter Tryd.func37, Tryd.ntmps37
    go_wp2_with fail
    refine K.out.mono ?_; rintro e w' ⟨rfl, hB2⟩
    obtain ⟨g0, g1, g2, g3⟩ := HCe.out w' (by simpa using hB2)
    have HB2 := Lib.hid hB2
    clear hB2
    go_wp2_with fail
    refine (KN _).out.mono ?_; rintro e w' ⟨rfl, ⟨m, rfl⟩⟩
    go_wp2_with fail
    refine (KT _).out.mono ?_; rintro e w' ⟨rfl, ⟨m', rfl⟩⟩
    go_wp2_with fail
    go_ret
    exact ⟨rfl, (by have Z := HB0.out.trans (HB2.out.mono (by simp)); (repeat (first | exact Z | apply pw_below_drewN | apply below_drew1)))⟩
   | true =>
    rw [if_pos rfl] at h
    by_cases c7 : a0_2 = 0
    ·rw [if_pos c7] at h
     injection h with h
     subst h
     subst c7
     have HC8 := Lib.hid (rfl : (a0_3.toList == ([] : List UInt8)) = (a0_3.toList == ([] : List UInt8)))
     go_enter Tryd.func37, Tryd.ntmps37
     go_wp2_with fail
     refine K.out.mono ?_; rintro e w' ⟨rfl, hB2⟩
     obtain ⟨g0, g1, g2, g3⟩ := HCe.out w' (by simpa using hB2)
     have HB2 := Lib.hid hB2
     clear hB2
     go_wp2_with fail
     refine (KN _).out.mono ?_; rintro e w' ⟨rfl, ⟨m, rfl⟩⟩
     go_wp2_with fail
     refine (KT _).out.mono ?_; rintro e w' ⟨rfl, ⟨m', rfl⟩⟩
     go_wp2_with fail
     all_goals go_ret
     all_goals exact ⟨ret_bool (by first | (simp; done) | (simp [*]; done) | (simp_all; done)), (by have Z := HB0.out.trans (HB2.out.mono (by simp)); (repeat (first | exact Z | apply pw_below_drewN | apply below_drew1)))⟩
    ·rw [if_neg c7] at h
     injection h with h
     subst h
     have d7 : (a0_2 == 0) = false := by simpa using c7
     go_enter Tryd.func37, Tryd.ntmps37
     go_wp2_with fail
     refine K.out.mono ?_; rintro e w' ⟨rfl, hB2⟩
     obtain ⟨g0, g1, g2, g3⟩ := HCe.out w' (by simpa using hB2)
     have HB2 := Lib.hid hB2
     clear hB2
     go_wp2_with fail
     refine (KN _).out.mono ?_; rintro e w' ⟨rfl, ⟨m, rfl⟩⟩
     go_wp2_with fail
     refine (KT _).out.mono ?_; rintro e w' ⟨rfl, ⟨m', rfl⟩⟩
     go_wp2_with fail
     all_goals go_ret
     all_goals exact ⟨ret_bool (by first | (simp; done) | (simp [*]; done) | (simp_all; done)), (by have Z := HB0.out.trans (HB2.out.mono (by simp)); (repeat (first | exact Z | apply pw_below_drewN | apply below_drew1)))⟩
end Go.Proofs.YtlmmhcpomnjogaaDoor.P
namespace Go.Proofs.YtlmmhcpomnjogaaDoor.H
open Go.RowKit Go.Shelf Go Go.MapKept
theorem run_put_last {P : Program} {mty kt et : TypeId} {d : TypeDesc} (hm : P.underlying mty = some (.map kt et)) (hd : P.underlying kt = some d) (w : World) (es : Array MapEntry) (clock : Nat) (key value : Value) (hk : IsKey d key) (hf : Instr.findNow d key es.toList 0 = some none) :
  (Instr.mapUpdate mty (.map (some w.heap.size)) key value).run P (w.alloc (.map es clock)) = .ok () (w.alloc (.map (es.push { key := key, val := value, born := clock }) (clock + 1))) := by
 have hb : (w.alloc (.map es clock)).heap[w.heap.size]? = some (.map es clock) := heap_alloc_new w _
 have hs : ({ w.alloc (.map es clock) with heap := (w.alloc (.map es clock)).heap.setIfInBounds w.heap.size (.map (es.push { key := key, val := value, born := clock }) (clock + 1)) } : World) = w.alloc (.map (es.push { key := key, val := value, born := clock }) (clock + 1)) := by
  have : (w.alloc (.map es clock)).heap.setIfInBounds w.heap.size (.map (es.push { key := key, val := value, born := clock }) (clock + 1)) = (w.alloc (.map (es.push { key := key, val := value, born := clock }) (clock + 1))).heap := by
   show (w.heap.push (.map es clock)).setIfInBounds w.heap.size _ = w.heap.push _
   apply Array.ext'
   simp
  rw [this]
  rfl
 simp [Instr.mapUpdate, run_underlying hm, MapKept.run_getObj_map hb, MapKept.run_checkKey hd hk, MapKept.run_findKey hd hf, MapKept.run_setObj_map _ hb, Result.andThen]
 exact hs
theorem run_look {P : Program} {mty kt et : TypeId} {d : TypeDesc} {w : World} {r clock : Nat} {es : Array MapEntry} (hm : P.underlying mty = some (.map kt et)) (hd : P.underlying kt = some d) (hb : w.heap[r]? = some (.map es clock)) (key v : Value) (i : Nat) (hk : IsKey d key) (hf : Instr.findNow d key es.toList 0 = some (some (i, v))) :
  (Instr.lookup mty (.map (some r)) key false).run P w = .ok v w := by
 simp [Instr.lookup, run_underlying hm, MapKept.run_getObj_map hb, MapKept.run_checkKey hd hk, MapKept.run_findKey hd hf, Result.andThen]
end Go.Proofs.YtlmmhcpomnjogaaDoor.H
namespace Go.Proofs.YtlmmhcpomnjogaaDoor.P
open Go.RowKit Go.Shelf Go.Lib Go.Proofs.YtlmmhcpomnjogaaDoorW.PrintWords Go.Proofs.YtlmmhcpomnjogaaDoorW.PrintLast Go.Proofs.YtlmmhcpomnjogaaDoorW.PrintMore
def reasonsM : Array MapEntry := #[{ key := .int .i64 400, val := .string (⟨#[66, 97, 100, 32, 82, 101, 113, 117, 101, 115, 116]⟩ : ByteArray), born := 0 }, { key := .int .i64 404, val := .string (⟨#[78, 111, 116, 32, 70, 111, 117, 110, 100]⟩ : ByteArray), born := 1 }, { key := .int .i64 413, val := .string (⟨#[67, 111, 110, 116, 101, 110, 116, 32, 84, 111, 111, 32, 76, 97, 114, 103, 101]⟩ : ByteArray), born := 2 }, { key := .int .i64 500, val := .string (⟨#[73, 110, 116, 101, 114, 110, 97, 108, 32, 83, 101, 114, 118, 101, 114, 32, 69, 114, 114, 111, 114]⟩ : ByteArray), born := 3 }, { key := .int .i64 502, val := .string (⟨#[66, 97, 100, 32, 71, 97, 116, 101, 119, 97, 121]⟩ : ByteArray), born := 4 }, { key := .int .i64 503, val := .string (⟨#[83, 101, 114, 118, 105, 99, 101, 32, 85, 110, 97, 118, 97, 105, 108, 97, 98, 108, 101]⟩ : ByteArray), born := 5 }, { key := .int .i64 504, val := .string (⟨#[71, 97, 116, 101, 119, 97, 121, 32, 84, 105, 109, 101, 111, 117, 116]⟩ : ByteArray), born := 6 }, { key := .int .i64 505, val := .string (⟨#[72, 84, 84, 80, 32, 86, 101, 114, 115, 105, 111, 110, 32, 78, 111, 116, 32, 83, 117, 112, 112, 111, 114, 116, 101, 100]⟩ : ByteArray), born := 7 }]
set_option maxHeartbeats 1600000 in
set_option maxRecDepth 100000 in
theorem reasons_any (w : World) :
  Calls Tryd.prog 11 #[] w fun e w' => e = .returned (.map (some w.heap.size)) ∧ w' = w.alloc (.map reasonsM 8) := by
 have hmm := @run_makeMap Tryd.prog
 have e1 := H.run_put_last Tryd.underlying37 Tryd.underlying3 w #[] 0 (.int .i64 400) (.string (⟨#[66, 97, 100, 32, 82, 101, 113, 117, 101, 115, 116]⟩ : ByteArray)) rfl rfl
 have e2 := H.run_put_last Tryd.underlying37 Tryd.underlying3 w #[{ key := .int .i64 400, val := .string (⟨#[66, 97, 100, 32, 82, 101, 113, 117, 101, 115, 116]⟩ : ByteArray), born := 0 }] 1 (.int .i64 404) (.string (⟨#[78, 111, 116, 32, 70, 111, 117, 110, 100]⟩ : ByteArray)) rfl rfl
 have e3 := H.run_put_last Tryd.underlying37 Tryd.underlying3 w #[{ key := .int .i64 400, val := .string (⟨#[66, 97, 100, 32, 82, 101, 113, 117, 101, 115, 116]⟩ : ByteArray), born := 0 }, { key := .int .i64 404, val := .string (⟨#[78, 111, 116, 32, 70, 111, 117, 110, 100]⟩ : ByteArray), born := 1 }] 2 (.int .i64 413) (.string (⟨#[67, 111, 110, 116, 101, 110, 116, 32, 84, 111, 111, 32, 76, 97, 114, 103, 101]⟩ : ByteArray)) rfl rfl
 have e4 := H.run_put_last Tryd.underlying37 Tryd.underlying3 w #[{ key := .int .i64 400, val := .string (⟨#[66, 97, 100, 32, 82, 101, 113, 117, 101, 115, 116]⟩ : ByteArray), born := 0 }, { key := .int .i64 404, val := .string (⟨#[78, 111, 116, 32, 70, 111, 117, 110, 100]⟩ : ByteArray), born := 1 }, { key := .int .i64 413, val := .string (⟨#[67, 111, 110, 116, 101, 110, 116, 32, 84, 111, 111, 32, 76, 97, 114, 103, 101]⟩ : ByteArray), born := 2 }] 3 (.int .i64 500) (.string (⟨#[73, 110, 116, 101, 114, 110, 97, 108, 32, 83, 101, 114, 118, 101, 114, 32, 69, 114, 114, 111, 114]⟩ : ByteArray)) rfl rfl
 have e5 := H.run_put_last Tryd.underlying37 Tryd.underlying3 w #[{ key := .int .i64 400, val := .string (⟨#[66, 97, 100, 32, 82, 101, 113, 117, 101, 115, 116]⟩ : ByteArray), born := 0 }, { key := .int .i64 404, val := .string (⟨#[78, 111, 116, 32, 70, 111, 117, 110, 100]⟩ : ByteArray), born := 1 }, { key := .int .i64 413, val := .string (⟨#[67, 111, 110, 116, 101, 110, 116, 32, 84, 111, 111, 32, 76, 97, 114, 103, 101]⟩ : ByteArray), born := 2 }, { key := .int .i64 500, val := .string (⟨#[73, 110, 116, 101, 114, 110, 97, 108, 32, 83, 101, 114, 118, 101, 114, 32, 69, 114, 114, 111, 114]⟩ : ByteArray), born := 3 }] 4 (.int .i64 502) (.string (⟨#[66, 97, 100, 32, 71, 97, 116, 101, 119, 97, 121]⟩ : ByteArray)) rfl rfl
 have e6 := H.run_put_last Tryd.underlying37 Tryd.underlying3 w #[{ key := .int .i64 400, val := .string (⟨#[66, 97, 100, 32, 82, 101, 113, 117, 101, 115, 116]⟩ : ByteArray), born := 0 }, { key := .int .i64 404, val := .string (⟨#[78, 111, 116, 32, 70, 111, 117, 110, 100]⟩ : ByteArray), born := 1 }, { key := .int .i64 413, val := .string (⟨#[67, 111, 110, 116, 101, 110, 116, 32, 84, 111, 111, 32, 76, 97, 114, 103, 101]⟩ : ByteArray), born := 2 }, { key := .int .i64 500, val := .string (⟨#[73, 110, 116, 101, 114, 110, 97, 108, 32, 83, 101, 114, 118, 101, 114, 32, 69, 114, 114, 111, 114]⟩ : ByteArray), born := 3 }, { key := .int .i64 502, val := .string (⟨#[66, 97, 100, 32, 71, 97, 116, 101, 119, 97, 121]⟩ : ByteArray), born := 4 }] 5 (.int .i64 503) (.string (⟨#[83, 101, 114, 118, 105, 99, 101, 32, 85, 110, 97, 118, 97, 105, 108, 97, 98, 108, 101]⟩ : ByteArray)) rfl rfl
 have e7 := H.run_put_last Tryd.underlying37 Tryd.underlying3 w #[{ key := .int .i64 400, val := .string (⟨#[66, 97, 100, 32, 82, 101, 113, 117, 101, 115, 116]⟩ : ByteArray), born := 0 }, { key := .int .i64 404, val := .string (⟨#[78, 111, 116, 32, 70, 111, 117, 110, 100]⟩ : ByteArray), born := 1 }, { key := .int .i64 413, val := .string (⟨#[67, 111, 110, 116, 101, 110, 116, 32, 84, 111, 111, 32, 76, 97, 114, 103, 101]⟩ : ByteArray), born := 2 }, { key := .int .i64 500, val := .string (⟨#[73, 110, 116, 101, 114, 110, 97, 108, 32, 83, 101, 114, 118, 101, 114, 32, 69, 114, 114, 111, 114]⟩ : ByteArray), born := 3 }, { key := .int .i64 502, val := .string (⟨#[66, 97, 100, 32, 71, 97, 116, 101, 119, 97, 121]⟩ : ByteArray), born := 4 }, { key := .int .i64 503, val := .string (⟨#[83, 101, 114, 118, 105, 99, 101, 32, 85, 110, 97, 118, 97, 105, 108, 97, 98, 108, 101]⟩ : ByteArray), born := 5 }] 6 (.int .i64 504) (.string (⟨#[71, 97, 116, 101, 119, 97, 121, 32, 84, 105, 109, 101, 111, 117, 116]⟩ : ByteArray)) rfl rfl
 have e8 := H.run_put_last Tryd.underlying37 Tryd.underlying3 w #[{ key := .int .i64 400, val := .string (⟨#[66, 97, 100, 32, 82, 101, 113, 117, 101, 115, 116]⟩ : ByteArray), born := 0 }, { key := .int .i64 404, val := .string (⟨#[78, 111, 116, 32, 70, 111, 117, 110, 100]⟩ : ByteArray), born := 1 }, { key := .int .i64 413, val := .string (⟨#[67, 111, 110, 116, 101, 110, 116, 32, 84, 111, 111, 32, 76, 97, 114, 103, 101]⟩ : ByteArray), born := 2 }, { key := .int .i64 500, val := .string (⟨#[73, 110, 116, 101, 114, 110, 97, 108, 32, 83, 101, 114, 118, 101, 114, 32, 69, 114, 114, 111, 114]⟩ : ByteArray), born := 3 }, { key := .int .i64 502, val := .string (⟨#[66, 97, 100, 32, 71, 97, 116, 101, 119, 97, 121]⟩ : ByteArray), born := 4 }, { key := .int .i64 503, val := .string (⟨#[83, 101, 114, 118, 105, 99, 101, 32, 85, 110, 97, 118, 97, 105, 108, 97, 98, 108, 101]⟩ : ByteArray), born := 5 }, { key := .int .i64 504, val := .string (⟨#[71, 97, 116, 101, 119, 97, 121, 32, 84, 105, 109, 101, 111, 117, 116]⟩ : ByteArray), born := 6 }] 7 (.int .i64 505) (.string (⟨#[72, 84, 84, 80, 32, 86, 101, 114, 115, 105, 111, 110, 32, 78, 111, 116, 32, 83, 117, 112, 112, 111, 114, 116, 101, 100]⟩ : ByteArray)) rfl rfl
 simp only [List.push_toArray, List.nil_append, List.cons_append, Nat.zero_add, Nat.reduceAdd] at e1 e2 e3 e4 e5 e6 e7 e8
 go_enter Tryd.func11, Tryd.ntmps11
 go_wp2_with fail
 go_ret
 exact ⟨rfl, rfl⟩
end Go.Proofs.YtlmmhcpomnjogaaDoor.P
namespace Go.Proofs.YtlmmhcpomnjogaaDoor.P
open Go.RowKit Go.Shelf Go.Lib Go.Proofs.YtlmmhcpomnjogaaDoorW.PrintWords Go.Proofs.YtlmmhcpomnjogaaDoorW.PrintLast Go.Proofs.YtlmmhcpomnjogaaDoorW.PrintMore
theorem status_set {k : Nat} {a0 n : Int} (h : answer_Status.f k a0 = some n) : n = 400 ∨ n = 404 ∨ n = 413 ∨ n = 500 ∨ n = 502 ∨ n = 503 ∨ n = 504 ∨ n = 505 := by
 have j : ∀ (k : Nat) (x : Int) (b : Bool), answer_Status.j0 k x b = some n → (n = 400 ∨ n = 404 ∨ n = 413 ∨ n = 500 ∨ n = 502 ∨ n = 503 ∨ n = 504 ∨ n = 505) := by
  intro k x b h
  cases k with
  | zero => cases h
  | succ k =>
   rw [answer_Status.j0] at h
   repeat' split at h
   all_goals (injection h with h; omega)
 unfold answer_Status.f at h
 repeat' split at h
 all_goals exact j _ _ _ h
theorem look_reason {n : Int} {t : ByteArray} {w : World} {r : Nat} (hb : w.heap[r]? = some (.map reasonsM 8)) (hn : n = 400 ∨ n = 404 ∨ n = 413 ∨ n = 500 ∨ n = 502 ∨ n = 503 ∨ n = 504 ∨ n = 505) (h : lockageref19_reason.f n = some t) : (Instr.lookup 37 (.map (some r)) (.int .i64 n) false).run Tryd.prog w = .ok (.string t) w := by
 rcases hn with rfl | rfl | rfl | rfl | rfl | rfl | rfl | rfl
 ·have e : lockageref19_reason.f 400 = some (⟨#[66, 97, 100, 32, 82, 101, 113, 117, 101, 115, 116]⟩ : ByteArray) := by kernel_rfl
  obtain rfl := Option.some.inj (e.symm.trans h)
  exact H.run_look Tryd.underlying37 Tryd.underlying3 hb (.int .i64 400) (.string (⟨#[66, 97, 100, 32, 82, 101, 113, 117, 101, 115, 116]⟩ : ByteArray)) 0 rfl rfl
 ·have e : lockageref19_reason.f 404 = some (⟨#[78, 111, 116, 32, 70, 111, 117, 110, 100]⟩ : ByteArray) := by kernel_rfl
  obtain rfl := Option.some.inj (e.symm.trans h)
  exact H.run_look Tryd.underlying37 Tryd.underlying3 hb (.int .i64 404) (.string (⟨#[78, 111, 116, 32, 70, 111, 117, 110, 100]⟩ : ByteArray)) 1 rfl rfl
 ·have e : lockageref19_reason.f 413 = some (⟨#[67, 111, 110, 116, 101, 110, 116, 32, 84, 111, 111, 32, 76, 97, 114, 103, 101]⟩ : ByteArray) := by kernel_rfl
  obtain rfl := Option.some.inj (e.symm.trans h)
  exact H.run_look Tryd.underlying37 Tryd.underlying3 hb (.int .i64 413) (.string (⟨#[67, 111, 110, 116, 101, 110, 116, 32, 84, 111, 111, 32, 76, 97, 114, 103, 101]⟩ : ByteArray)) 2 rfl rfl
 ·have e : lockageref19_reason.f 500 = some (⟨#[73, 110, 116, 101, 114, 110, 97, 108, 32, 83, 101, 114, 118, 101, 114, 32, 69, 114, 114, 111, 114]⟩ : ByteArray) := by kernel_rfl
  obtain rfl := Option.some.inj (e.symm.trans h)
  exact H.run_look Tryd.underlying37 Tryd.underlying3 hb (.int .i64 500) (.string (⟨#[73, 110, 116, 101, 114, 110, 97, 108, 32, 83, 101, 114, 118, 101, 114, 32, 69, 114, 114, 111, 114]⟩ : ByteArray)) 3 rfl rfl
 ·have e : lockageref19_reason.f 502 = some (⟨#[66, 97, 100, 32, 71, 97, 116, 101, 119, 97, 121]⟩ : ByteArray) := by kernel_rfl
  obtain rfl := Option.some.inj (e.symm.trans h)
  exact H.run_look Tryd.underlying37 Tryd.underlying3 hb (.int .i64 502) (.string (⟨#[66, 97, 100, 32, 71, 97, 116, 101, 119, 97, 121]⟩ : ByteArray)) 4 rfl rfl
 ·have e : lockageref19_reason.f 503 = some (⟨#[83, 101, 114, 118, 105, 99, 101, 32, 85, 110, 97, 118, 97, 105, 108, 97, 98, 108, 101]⟩ : ByteArray) := by kernel_rfl
  obtain rfl := Option.some.inj (e.symm.trans h)
  exact H.run_look Tryd.underlying37 Tryd.underlying3 hb (.int .i64 503) (.string (⟨#[83, 101, 114, 118, 105, 99, 101, 32, 85, 110, 97, 118, 97, 105, 108, 97, 98, 108, 101]⟩ : ByteArray)) 5 rfl rfl
 ·have e : lockageref19_reason.f 504 = some (⟨#[71, 97, 116, 101, 119, 97, 121, 32, 84, 105, 109, 101, 111, 117, 116]⟩ : ByteArray) := by kernel_rfl
  obtain rfl := Option.some.inj (e.symm.trans h)
  exact H.run_look Tryd.underlying37 Tryd.underlying3 hb (.int .i64 504) (.string (⟨#[71, 97, 116, 101, 119, 97, 121, 32, 84, 105, 109, 101, 111, 117, 116]⟩ : ByteArray)) 6 rfl rfl
 ·have e : lockageref19_reason.f 505 = some (⟨#[72, 84, 84, 80, 32, 86, 101, 114, 115, 105, 111, 110, 32, 78, 111, 116, 32, 83, 117, 112, 112, 111, 114, 116, 101, 100]⟩ : ByteArray) := by kernel_rfl
  obtain rfl := Option.some.inj (e.symm.trans h)
  exact H.run_look Tryd.underlying37 Tryd.underlying3 hb (.int .i64 505) (.string (⟨#[72, 84, 84, 80, 32, 86, 101, 114, 115, 105, 111, 110, 32, 78, 111, 116, 32, 83, 117, 112, 112, 111, 114, 116, 101, 100]⟩ : ByteArray)) 7 rfl rfl
end Go.Proofs.YtlmmhcpomnjogaaDoor.P
