/- Several parts together: The hand contracts of package field in the form of the printed ones: plain functions and what the Go functions do; The contract of slices.Grow at nothing, for rows of texts, in the form of the printed ones; The contract of field.Items in the printed form; The hand contracts of strings.Cut and field.Drop in the form of the printed ones; The contract of the iterator of slices.Backward over a row of texts. -/
import Derived.Test.YthmpfncidpjnjaaDoorPx0
import Derived.Test.YthmpfncidpjnjaaDoorHZA
import Derived.Lib.AppendZeros
import Derived.OwnWalkIn
import Derived.TacticsInMore
import Derived.LoopNIn
import Derived.LoopIn
namespace Go.Proofs.YthmpfncidpjnjaaDoor.P
open Go.RowKit Go.Proofs.YthmpfncidpjnjaaDoorW.PrintWords Go.Proofs.YthmpfncidpjnjaaDoorW.PrintLast Go.Proofs.YthmpfncidpjnjaaDoorW.PrintMore

def field_Name.f (a0 : ByteArray) : Option Bool := if a0.size ≤ 9223372036854775806 then some (Sp.nameB a0.data.toList) else none
def field_Value.f (a0 : ByteArray) : Option Bool := if a0.size ≤ 9223372036854775806 then some (Sp.valB a0.data.toList) else none
def field_Trim.f (a0 : ByteArray) : Option ByteArray := if a0.size ≤ 9223372036854775806 then some ⟨(Sp.trim a0.data.toList).toArray⟩ else none
theorem field_Trim.calls (a0 : ByteArray) (r : ByteArray) (w : World) (h : field_Trim.f a0 = some r) :
    Calls Tryd.prog 56 #[.string a0] w fun e w' => e = .returned (.string r) ∧ Below w.heap.size w w' := by
  unfold field_Trim.f at h
  split at h
  · injection h with h
    subst h
    exact H.trim_any a0 w (by omega)
  · cases h
def field_Lower.f (a0 : ByteArray) : Option ByteArray := if a0.size ≤ 9223372036854775806 then some ⟨(Sp.lower a0.data.toList).toArray⟩ else none
theorem field_Lower.calls (a0 : ByteArray) (r : ByteArray) (w : World) (h : field_Lower.f a0 = some r) :
    Calls Tryd.prog 41 #[.string a0] w fun e w' => e = .returned (.string r) ∧ Below w.heap.size w w' := by
  unfold field_Lower.f at h
  split at h
  · injection h with h
    subst h
    exact H.lower_any a0 w (by omega)
  · cases h
end Go.Proofs.YthmpfncidpjnjaaDoor.P
namespace Go.Proofs.YthmpfncidpjnjaaDoor.P
open Go.RowKit Go.Lib Go.Proofs.YthmpfncidpjnjaaDoorW.PrintWords Go.Proofs.YthmpfncidpjnjaaDoorW.PrintLast Go.Proofs.YthmpfncidpjnjaaDoorW.PrintMore
/-- A new row of n zeros, cut to nothing. -/
theorem R_zeros (w : World) (n cap : Nat) (Z : Array Value) (hZ : Z.size = cap) (h1 : n ≤ cap) (h2 : cap ≤ maxLen) : Kd.R Kd.string 9 (w.drew.alloc (.cells Z 9)) w.heap.size (fun _ => True) (.slice (some ⟨w.heap.size, 0, none⟩) 0 cap) [] := by
  refine Kd.R_of_own (enc := Value.string) (xs := []) ?_ (fun _ _ => trivial)
  refine ⟨rfl, .inr ⟨w.heap.size, cap, Z, rfl, Nat.le_refl _, heap_alloc_new w.drew _, Nat.zero_le _, h2, by rw [hZ]; simp, by simp [encs]⟩⟩
def slices_Grow_string_string.f (l0 : List ByteArray) (a1 : Int) : Option (List ByteArray) :=
  match l0 with
  | [] => if 0 ≤ a1 then if a1 * 16 ≤ 140737488355328 then some [] else none else none
  | _ :: _ => none
set_option maxHeartbeats 1600000 in
set_option maxRecDepth 100000 in
theorem slices_Grow_string_string.calls (A0 : Option Addr) (c0 : Nat) (l0 : List ByteArray) (a1 : Int) (r : List ByteArray) (w : World) (hr0 : Kd.C Kd.string w A0 l0.length l0) (hc0 : l0.length ≤ c0) (h : slices_Grow_string_string.f l0 a1 = some r) (hA : A0 = none := by rfl) (hC : c0 = 0 := by rfl) :
    Calls Tryd.prog 53 #[.slice A0 l0.length c0, .int .i64 a1] w fun e w' => ∃ v0_ : Value, e = .returned (v0_) ∧ Kd.R Kd.string 9 w' w.heap.size (fun _ => True) v0_ r ∧ Below w.heap.size w w' := by
  subst hA hC
  unfold slices_Grow_string_string.f at h
  split at h
  · split at h
    · rename_i h0
      split at h
      · rename_i hb
        injection h with h
        subst h
        clear hr0 hc0
        show Calls Tryd.prog 53 #[.slice none 0 0, .int .i64 a1] w _
        by_cases hz : a1 = 0
        · subst hz
          go_enter Tryd.func53, Tryd.ntmps53
          go_wp2_with fail
          go_ret
          exact ⟨_, rfl, Kd.R_nil _ _ _ _ _, Below.refl _ _⟩
        · obtain ⟨n, rfl⟩ : ∃ n : Nat, a1 = (n : Int) := ⟨a1.toNat, by omega⟩
          obtain ⟨i0, hi0, hz0, hz1, hz2⟩ := info_parts (show (Tryd.prog.info? 9).map (fun i => (i.zero, i.size, i.bytes)) = some (some (.string ⟨#[]⟩), 1, 16) by kernel_rfl)
          have happ := Lib.run_append_nil_zeros (P := Tryd.prog) w 38 3 38 9 i0 (.string ⟨#[]⟩) .i64 .i64 Tryd.underlying38 Tryd.underlying3 hi0 hz0 n (by omega) (by omega) (by omega) (by rw [hz2]; omega)
          generalize hcap : grownCap w n 0 9 = cap at happ
          have hcapge : n ≤ cap := by rw [← hcap]; exact grownCap_ge w _ 0 _
          have hcaple : cap ≤ maxLen := by rw [← hcap]; exact grownCap_le_maxLen w _ 0 _ (by unfold maxLen; omega)
          generalize hZ : (Builtin.zeroCells (Value.string ⟨#[]⟩).cells n ++ Builtin.zeroCells (Value.string ⟨#[]⟩).cells (cap - n)) = Z at happ
          have hZs : Z.size = cap := by rw [← hZ]; simp [size_zeroCells, Value.cells]; omega
          have HZs := Lib.hid hZs
          clear hcap hZ hi0 hz0 hz1 hz2 hZs
          have HA := Lib.hid happ
          clear happ
          have k1 : ¬ ((n : Int) < 0) := by omega
          have k2 : (0 : Int) < n := by omega
          have k3 : (0 : Int) ≤ cap := by omega
          have HM := Lib.hid hcaple
          go_enter Tryd.func53, Tryd.ntmps53
          go_wp2_with (at_builtin; refine Lib.wpList_append_run _ rfl _ _ _ _ rfl _ _ rfl rfl _ _ HA.out ?_)
          go_ret
          exact ⟨_, rfl, R_zeros w n cap Z HZs.out hcapge HM.out, below_alloc (below_drew1 (Below.refl _ _)) _⟩
      · cases h
    · cases h
  · cases h
end Go.Proofs.YthmpfncidpjnjaaDoor.P
namespace Go.Proofs.YthmpfncidpjnjaaDoor.P
open Go.RowKit Go.Shelf Go.Proofs.YthmpfncidpjnjaaDoorW.PrintWords Go.Proofs.YthmpfncidpjnjaaDoorW.PrintLast Go.Proofs.YthmpfncidpjnjaaDoorW.PrintMore
attribute [local go_sem] Oper.semAt_some
def itemsB (s : ByteArray) : List ByteArray := (Sp.items s.data.toList).map H.mkB
def field_Items.f (a0 : ByteArray) : Option (List ByteArray) := if a0.size ≤ 4294967280 then some (itemsB a0) else none

theorem pieces_any (s : ByteArray) (w : World) :
    Calls Tryd.prog 46 #[.string s] w fun e w' => e = .returned (.func (.func 54) #[] #[.pointer (some ⟨w.heap.size, 0, none⟩)]) ∧ w' = w.alloc (.cells #[.string s] 9) := by
  go_enter Tryd.func46, Tryd.ntmps46
  go_wp2
  go_ret
  exact ⟨rfl, rfl⟩
theorem two_blocks (W : World) (o0 o1 : Obj) : ((W.alloc o0).alloc o1).heap[W.heap.size]? = some o0 ∧ ((W.alloc o0).alloc o1).heap[W.heap.size + 1]? = some o1 := by
  have e : ((W.alloc o0).alloc o1).heap = (W.heap.push o0).push o1 := rfl
  rw [e]
  refine ⟨?_, ?_⟩ <;> simp only [Array.getElem?_push, Array.size_push] <;> repeat (first | rw [if_pos trivial] | rw [if_neg (by omega)] | rw [if_pos (by omega)])
theorem infoStr : (Tryd.prog.info? 9).map (fun i => (i.zero, i.size, i.bytes)) = some (some (.string ⟨#[]⟩), 1, 16) := by kernel_rfl
theorem cnt_le (l : List UInt8) : (Sp.parts 44 l).length ≤ l.length + 1 := by
  induction l with
  | nil => simp [Sp.parts]
  | cons b l ih =>
    rw [Sp.parts]
    split
    · simp; omega
    · split
      · simp
      · rename_i q r e; rw [e] at ih; simp at ih ⊢; omega
theorem items_le (s : ByteArray) : (itemsB s).length ≤ s.size + 1 := by
  unfold itemsB Sp.items
  rw [List.length_map]
  refine Nat.le_trans (List.length_filter_le _ _) ?_
  rw [List.length_map]
  have := cnt_le s.data.toList
  simpa using this
theorem vitems_eq (s : ByteArray) : H.vitems s.data.toList = (itemsB s).map Value.string := by
  unfold H.vitems itemsB
  rw [List.map_map]; rfl

/-- What holds between two items that are put. -/
structure ItemAt (s : ByteArray) (h : Nat) (w : World) (j : Nat) (W : World) : Prop where
  r : ∃ v, W.heap[h]? = some (.cells #[v] 38 (0, 0)) ∧ W.ownsRow (h + 10) 9 1 v ((itemsB s).take j).length (encs Value.string ((itemsB s).take j))
  b : Below h w W

set_option maxRecDepth 100000 in
set_option maxHeartbeats 4000000 in
theorem items_in (n : Nat) (s : ByteArray) (w : World) (hs : s.size ≤ 4294967280) :
    CallsIn Fence.wide n Tryd.prog 32 #[.string s] w fun e w' => ∃ v0_ : Value, e = .returned (v0_) ∧ Kd.R Kd.string 9 w' w.heap.size (fun _ => True) v0_ (itemsB s) ∧ Below w.heap.size w w' := by
  obtain ⟨i0, hi0, hz0, hz1, hz2⟩ := info_parts infoStr
  have hpc := fun w => (callsIn_wide (n := n - 1)).2 (pieces_any s w)
  have HP := Lib.hid hpc
  clear hpc
  have hit := items_le s
  obtain ⟨h, hh⟩ : ∃ h, h = w.heap.size := ⟨_, rfl⟩
  refine callsIn_of_wp_marks Tryd.func32 rfl trivial ?_ rfl
  simp only [Tryd.ntmps32, List.size_toArray, List.length_cons, List.length_nil, Nat.reduceAdd, Nat.reduceSub, Array.replicate_succ, Array.replicate_zero, List.push_toArray, List.append_toArray, List.nil_append, List.cons_append]
  gi_wp2_with fail
  refine ⟨trivial, (fun h => by simp [Fence.wide] at h), (HP.out _).mono ?_⟩; rintro e w' ⟨rfl, rfl⟩
  gi_wp2_with fail
  obtain ⟨W0, hW0⟩ : ∃ W0, W0 = (w.alloc (.cells #[.slice none 0 0] 38)).alloc (.cells #[.string s] 9) := ⟨_, rfl⟩
  have hsz0 : W0.heap.size = h + 2 := by rw [hW0, hh]; simp
  have hb0 : Below h w W0 := by
    rw [hW0, hh]
    exact ((Below.refl _ w).alloc (Nat.le_refl _) _).alloc (by simp) _
  obtain ⟨g0, g1⟩ := two_blocks w (.cells #[.slice none 0 0] 38) (.cells #[.string s] 9)
  rw [← hW0, ← hh] at g0 g1
  rw [← hW0]
  rw [← hh]
  have HH := Lib.hid hh
  clear hh
  have c1 := H.cell_of_heap g1
  clear hW0 g1
  refine H.rf_all (gf := 54) (lb := #[.pointer (some ⟨h + 1, 0, none⟩)]) rfl (enters_of Tryd.func54 (by kernel_rfl) rfl) 6 rfl
    (H.vitems s.data.toList) (h + 10) (fun r => h + 4 ≤ r ∧ r < h + 10) (fun b => h + 4 ≤ b ∧ b < h + 10) (fun b hb => by omega) (fun r hr => by omega)
    (fun J' W' hsz' hB' hA' hY' h0' => H.pieces_in (n - 1) (n - 1 - 1) _ (h + 1) s J' W' (by omega) ((hB'.cell (p := ⟨h + 1, 0, none⟩) (by show h + 1 < _; omega)).trans c1) (by omega)
      (fun k A B row hj hg hr => hA' k A B row hj hg (fun r e => by have := hr r e; omega))
      (fun k x W1 hj hz hx => YieldAt.mono (hY' k x W1 hj (by omega) hx) (fun e w' hq => ⟨hq.1, hq.2.1, hq.2.2.1, fun b h1 h2 => hq.2.2.2 b (by omega)⟩)) h0')
    (ItemAt s h w) ?_ ⟨⟨_, g0, by simpa [encs] using World.ownsRow_nil _ _ _ _⟩, hb0⟩
    (fun x => { tmps := #[.string s, undef, .pointer (some ⟨h, 0, none⟩), x, .string s, .func (.func 54) #[] #[.pointer (some ⟨h + 1, 0, none⟩)], x, undef, undef, undef, undef, undef], defers := [] }) ?_ ?_ ?_
  · rintro k A B row ⟨⟨v, hv, hr⟩, hB⟩ hg hrow
    have hr3 : ∀ r, row = some r → h < r ∧ r < h + 10 := fun r e => by have := hrow r e; omega
    refine ⟨⟨v, (hg.block h (Array.getElem?_eq_some_iff.1 hv).1 (fun e => by have := hr3 h e.symm; omega)).trans hv, hr.kept hg ?_⟩, hB.grown hg (by have := (Array.getElem?_eq_some_iff.1 hv).1; omega) (fun k e => by have := hr3 k e; omega)⟩
    cases hvb : v.ownBlock with
    | none => exact .inl rfl
    | some b =>
      refine .inr (fun e => ?_)
      have h1 := own_base hr b hvb
      have h2 := hr3 b e.symm
      omega
  · intro l' x W' K hK
    gi_wp2
    exact hK
  · rintro l' k x W' ⟨⟨v, hv, hr⟩, hB⟩ hx hlt hB0
    rw [vitems_eq, List.getElem?_map] at hx
    obtain ⟨y, hy, rfl⟩ : ∃ y, (itemsB s)[k]? = some y ∧ x = .string y := by
      cases hq : (itemsB s)[k]? with
      | none => rw [hq] at hx; cases hx
      | some y => rw [hq] at hx; injection hx with hx; exact ⟨y, rfl, hx.symm⟩
    obtain ⟨hk, hy2⟩ := List.getElem?_eq_some_iff.mp hy
    have htk : (itemsB s).take (k + 1) = (itemsB s).take k ++ [y] := by rw [List.take_succ_eq_append_getElem hk, hy2]
    have hlk : ((itemsB s).take k).length = k := by rw [List.length_take]; omega
    have HTK := Lib.hid htk
    have hc := H.cell_of_heap hv
    have hf := H.frozen_of_heap hv
    have hne : ∀ b, v.ownBlock = some b → h + 10 ≤ b := fun b e => own_base hr b e
    have HV := Lib.hid hv
    have HNE := Lib.hid hne
    have HXS := Lib.hid hlk
    rw [hlk] at hr
    obtain ⟨acc, hacc⟩ : ∃ acc, acc = encs Value.string ((itemsB s).take k) := ⟨_, rfl⟩
    rw [← hacc] at hr
    have HA := Lib.hid hacc
    clear hx hy hy2 htk hlk hv hne hacc
    gi_wp2_with (gi_at_builtin; refine wpListIn_append_own _ rfl _ _ 38 rfl (h + 10) 9 i0 _ 1 16 Tryd.underlying38 hi0 hz0 hz1 hz2 rfl (by decide) _ _ _ rfl (hr.alloc _) ⟨W'.heap.size, 0, none⟩ 1 1 [.string y] rfl rfl (cell_one_new _ _ _) (by simp [Value.oneCell']) (by unfold maxLen; omega) (by omega) (by simp; omega) ?_; intro v' w1 hown' hgrow _; obtain ⟨g', cap', rfl⟩ := ownsRow_succ hown'; have hq1 : w1.heap[h]? = W'.heap[h]? := (hgrow.block h (by simp; omega) (fun e => by have := HNE.out h e.symm; omega)).trans (Below.heap_alloc W' _ h (by omega)); have hc1 := (World.cell?_of_block (a := ⟨h, 0, none⟩) hq1).trans hc; have hf1 := (World.frozen?_of_block (a := ⟨h, 0, none⟩) hq1).trans hf)
    have hq : ∀ b, b < h + 10 → w1.heap[b]? = W'.heap[b]? := fun b hb => (hgrow.block b (by simp; omega) (fun e => by have := HNE.out b e.symm; omega)).trans (Below.heap_alloc W' _ b (by omega))
    have hq3 : ∀ b u, b ≠ h → (w1.setCell ⟨h, 0, none⟩ u).heap[b]? = w1.heap[b]? := fun b u hb => Below.heap_setCell w1 ⟨h, 0, none⟩ u b hb
    have hsz1 : W'.heap.size ≤ w1.heap.size := Nat.le_trans (by simp) hgrow.size
    have hB1 : Below h w w1 := (hB.alloc (by omega) _).grown hgrow (by simp; omega) (fun k e => by have := HNE.out k e; omega)
    refine ⟨by simpa [World.setCell] using hsz1, (hq3 _ _ (by omega)).trans (hq _ (by omega)), (hq3 _ _ (by omega)).trans (hq _ (by omega)), fun b hb => (hq3 b _ (by omega)).trans (hq b (by omega)), ⟨_, one_setCell ((hq h (by omega)).trans HV.out), ?_⟩, hB1.setCell (Nat.le_refl _) _⟩
    rw [HTK.out, List.length_append, HXS.out]
    have e2 : encs Value.string ((itemsB s).take k ++ [y]) = acc ++ [.string y] := by rw [HA.out]; simp [encs]
    rw [e2]
    exact hown'.kept (H.grown_set _ _ _) (.inr (fun e => by have := own_base hown' h e; omega))
  · rintro W' ⟨⟨v, hv, hr⟩, hB⟩ hd
    rw [hsz0] at hd ⊢
    have hlen : (H.vitems s.data.toList).length = (itemsB s).length := by rw [vitems_eq, List.length_map]
    rw [hlen, List.take_length] at hr
    clear hlen
    have hc := H.cell_of_heap hv
    have hf := H.frozen_of_heap hv
    obtain ⟨A, n0, c0, rfl⟩ : ∃ A n0 c0, v = .slice A n0 c0 := by
      rcases hr.2 with ⟨h1, _⟩ | ⟨g, cap, cur, h1, _⟩
      · exact ⟨_, _, _, h1⟩
      · exact ⟨_, _, _, h1⟩
    have hne : ∀ b, (Value.slice A n0 c0).ownBlock = some b → h + 10 ≤ b := fun b e => own_base hr b e
    have HR := Lib.hid hr
    have HV := Lib.hid hv
    have HNE := Lib.hid hne
    clear hr hv hne
    have c2 : (W'.setCell ⟨h, 0, none⟩ (.slice A n0 c0)).cell? ⟨h, 0, none⟩ = some (.slice A n0 c0) := World.cell?_setCell_same' _ _ _ (by rw [hc]; rfl)
    have hd2 : (W'.setCell ⟨h, 0, none⟩ (.slice A n0 c0)).heap[h + 2]? = some (.deferred (some [])) := (Below.heap_setCell W' ⟨h, 0, none⟩ _ (h + 2) (by show h + 2 ≠ h; omega)).trans hd
    have c3 : ((W'.setCell ⟨h, 0, none⟩ (.slice A n0 c0)).putObj (h + 2) (.deferred none)).cell? ⟨h, 0, none⟩ = some (.slice A n0 c0) := (World.cell?_of_block (a := ⟨h, 0, none⟩) (World.putObj_heap_other (by show h ≠ h + 2; omega))).trans c2
    have HC2 := Lib.hid c2
    have HC3 := Lib.hid c3
    clear c2 c3
    gi_wp2_with fail
    refine ⟨by simp, .inl ⟨_, _, rfl, run_takeDeferred hd2, ?_⟩⟩
    refine ⟨.slice A n0 c0, by simp [results, Tryd.results32, go_sem, HC3.out], _, rfl, ?_, ?_⟩
    · have h1 := HR.out.kept (H.grown_set W' h (.slice A n0 c0)) (by
        cases hvb : (Value.slice A n0 c0).ownBlock with
        | none => exact .inl rfl
        | some b => exact .inr (fun e => by have := HNE.out b hvb; injection e with e; omega))
      have h2 := ownsRow_putObj h1 (.deferred none) hd2 rfl
      have h3 := own_less h2 (show h ≤ h + 10 by omega)
      rw [← HH.out]
      exact Kd.R_of_own h3 (fun _ _ => trivial)
    · rw [← HH.out]
      exact (hB.setCell (Nat.le_refl _) _).grown (grownBy_putObj' _ _ _) (by have := (Array.getElem?_eq_some_iff.1 hd).1; simp [World.setCell]; omega) (fun k e => by cases e; omega)
theorem field_Items.calls (a0 : ByteArray) (r : List ByteArray) (w : World) (h : field_Items.f a0 = some r) :
    Calls Tryd.prog 32 #[.string a0] w fun e w' => ∃ v0_ : Value, e = .returned (v0_) ∧ Kd.R Kd.string 9 w' w.heap.size (fun _ => True) v0_ r ∧ Below w.heap.size w w' := by
  unfold field_Items.f at h
  split at h
  · injection h with h
    subst h
    exact (callsIn_wide (n := 9)).1 (items_in 9 a0 w (by assumption))
  · cases h
end Go.Proofs.YthmpfncidpjnjaaDoor.P
namespace Go.Proofs.YthmpfncidpjnjaaDoor.P
open Go.RowKit Go.Proofs.YthmpfncidpjnjaaDoorW.PrintWords Go.Proofs.YthmpfncidpjnjaaDoorW.PrintLast Go.Proofs.YthmpfncidpjnjaaDoorW.PrintMore

def strings_Cut.f (a0 : ByteArray) (a1 : ByteArray) : Option (ByteArray × ByteArray × Bool) :=
  if a0.size ≤ 9223372036854775806 then
    match a1.data.toList with
    | [c] => some (⟨(Sp.cutL c a0.data.toList).toArray⟩, ⟨(Sp.cutR c a0.data.toList).toArray⟩, Sp.cutIs c a0.data.toList)
    | _ => none
  else none
/-- Texts that are no longer than memory is. -/
def smallB (l : List ByteArray) : Bool := l.all fun x => decide (x.size ≤ 9223372036854775806)
theorem smallB_small {l : List ByteArray} (h : smallB l = true) : H.Small l := fun x hx => by
  unfold smallB at h
  rw [List.all_eq_true] at h
  have := of_decide_eq_true (h x hx)
  omega
def keeps (l1 : List ByteArray) (x : S28) : Bool := !(l1.any (H.sameName x.f0))
def field_Drop.f (l0 : List S28) (l1 : List ByteArray) : Option (List S28) :=
  if smallB (l0.map (·.f0)) && (smallB l1 && (decide (l0.length < 4398046511104) && decide (l1.length < 4398046511104))) then some (l0.filter (keeps l1)) else none

theorem take_filter (l : List S28) (p : S28 → Bool) (k : Nat) (h : k < l.length) : (l.take (k + 1)).filter p = (l.take k).filter p ++ (if p (l.getD k z28) then [l.getD k z28] else []) := by
  rw [List.take_succ_eq_append_getElem h, List.filter_append, List.getD_eq_getElem?_getD, List.getElem?_eq_getElem h]
  simp only [List.filter_cons, List.filter_nil, Option.getD_some]
theorem two_cells (W : World) (c0 c1 : Value) (t : Nat) : (W.alloc (.cells #[c0, c1] t)).cell? ⟨W.heap.size, 0, none⟩ = some c0 := by
  have h := heap_alloc_new W (.cells #[c0, c1] t)
  unfold World.cell?
  rw [h]
  rfl
theorem filter_len (l : List S28) (p : S28 → Bool) (k : Nat) (hl : l.length < 4398046511104) : ((l.take k).filter p).length < 4398046511104 := by
  have h1 := List.length_filter_le p (l.take k)
  have h2 : (l.take k).length ≤ l.length := by simp [List.length_take]; omega
  omega

set_option maxHeartbeats 3200000 in
set_option maxRecDepth 100000 in
theorem field_Drop.calls (A0 : Option Addr) (c0 : Nat) (l0 : List (S28)) (A1 : Option Addr) (c1 : Nat) (l1 : List ByteArray) (r : List (S28)) (w : World) (hr0 : Kd.C k28 w A0 l0.length l0) (hc0 : l0.length ≤ c0) (hr1 : Kd.C Kd.string w A1 l1.length l1) (hc1 : l1.length ≤ c1) (h : field_Drop.f l0 l1 = some r) :
    Calls Tryd.prog 42 #[.slice A0 l0.length c0, .slice A1 l1.length c1] w fun e w' => ∃ v0_ : Value, e = .returned (v0_) ∧ Kd.R k28 28 w' w.heap.size (fun _ => True) v0_ r ∧ Below w.heap.size w w' := by
  unfold field_Drop.f at h
  split at h
  case isFalse => cases h
  case isTrue hs =>
  injection h with h
  subst h
  simp only [Bool.and_eq_true, decide_eq_true_eq] at hs
  obtain ⟨hs0, hs1, hl0, hl1⟩ := hs
  have HS0 := Lib.hid (smallB_small hs0)
  have HS1 := Lib.hid (smallB_small hs1)
  have HR0 := Lib.hid hr0
  have HR1 := Lib.hid hr1
  clear hr0 hr1 hs0 hs1
  have hu := Tryd.underlying28
  go_enter Tryd.func42, Tryd.ntmps42
  go_wp2
  go_loopw [4, 6, 9] (fun v _ i wr => ∃ k : Nat, k ≤ l0.length ∧ i = .int .i64 k ∧ Hid (Kd.R k28 28 wr w.heap.size (fun _ => True) v ((l0.take k).filter (keeps l1))) ∧ Hid (Below w.heap.size w wr)) (fun _ _ i _ => l0.length - (RowKit.intOf i).toNat)
  case atStart => exact ⟨0, Nat.zero_le _, rfl, Lib.hid (Kd.R_nil _ _ _ _ _), Lib.hid (Below.refl _ _)⟩
  case round =>
    obtain ⟨k, hk, rfl, hO, hB⟩ := hrel
    by_cases hlt : k < l0.length
    · obtain ⟨ad, rfl, hx0, hx1⟩ := at_T28 HR0.out (k : Int) (by omega) (by omega)
      replace hx0 := (hB.out.cell (World.block_lt_of_cell? w _ hx0)).trans hx0
      replace hx1 := (hB.out.cell (World.block_lt_of_cell? w _ hx1)).trans hx1
      rw [Int.toNat_natCast] at hx0 hx1
      have hx : rd_T28 l0 (k : Int) = l0.getD k z28 := by simp [rd_T28]
      rw [hx] at hx0 hx1
      clear hx
      obtain ⟨x, hx⟩ : ∃ x, x = l0.getD k z28 := ⟨_, rfl⟩
      rw [← hx] at hx0 hx1
      have hxs : x.f0.size ≤ 9223372036854775807 := by
        rw [hx, List.getD_eq_getElem?_getD, List.getElem?_eq_getElem hlt]
        exact HS0.out _ (List.mem_map.mpr ⟨_, List.getElem_mem _, rfl⟩)
      have HX := Lib.hid hx
      clear hx
      have hb1 := below_alloc hB.out (.cells #[.string x.f0, .string x.f1] 28)
      have K := Lib.hid (H.has_any l1 x.f0 A1 c1 (wr.alloc (.cells #[.string x.f0, .string x.f1] 28)) wr.heap.size (by simp) HS1.out hxs (by omega) (Kd.C_below HR1.out hb1) (two_cells _ _ _ _))
      have HB1 := Lib.hid hb1
      clear hb1
      have hp : keeps l1 x = !(l1.any (H.sameName x.f0)) := rfl
      have hcells : ∀ w', Below (wr.heap.size + 1) (wr.alloc (.cells #[.string x.f0, .string x.f1] 28)) w' → w'.cell? ⟨wr.heap.size, 0, none⟩ = some (.string x.f0) ∧ w'.cell? ⟨wr.heap.size, 1, none⟩ = some (.string x.f1) := fun w' hb => by
        have g := heap_alloc_new wr (.cells #[.string x.f0, .string x.f1] 28)
        refine ⟨(hb.cell (p := ⟨wr.heap.size, 0, none⟩) (by simp)).trans ?_, (hb.cell (p := ⟨wr.heap.size, 1, none⟩) (by simp)).trans ?_⟩
        · unfold World.cell?; rw [g]; rfl
        · unfold World.cell?; rw [g]; rfl
      have HCe := Lib.hid hcells
      clear hcells
      have htf := take_filter l0 (keeps l1) k hlt
      have hfl := filter_len l0 (keeps l1) k hl0
      rw [← HX.out] at htf
      obtain ⟨acc, hacc⟩ : ∃ acc, acc = (l0.take k).filter (keeps l1) := ⟨_, rfl⟩
      rw [← hacc] at htf hO hfl
      have HTF := Lib.hid htf
      clear htf hacc
      cases hv : l1.any (H.sameName x.f0) with
      | true =>
        rw [hv] at K hp
        have HP := Lib.hid hp
        clear hv hp
        go_wp2_with fail
        refine K.out.mono ?_; rintro e w' ⟨rfl, hB2⟩
        have hB3 := hB2.mono (show wr.heap.size + 1 ≤ (wr.alloc (.cells #[.string x.f0, .string x.f1] 28)).heap.size by simp)
        go_wp2_with fail
        go_roundw
        case rel => exact ⟨k + 1, by omega, by go_num, Lib.hid (by
            rw [HTF.out, HP.out]
            simp only [Bool.not_true, Bool.false_eq_true, if_false, List.append_nil]
            exact Kd.R_below (Kd.R_alloc hO.out _) hB2), Lib.hid (HB1.out.trans (hB2.mono HB1.out.size))⟩
        case measure => simp [RowKit.intOf]; omega
      | false =>
        rw [hv] at K hp
        have HP := Lib.hid hp
        clear hv hp
        go_wp2_with fail
        refine K.out.mono ?_; rintro e w' ⟨rfl, hB2⟩
        obtain ⟨g0, g1⟩ := HCe.out w' (by simpa using hB2)
        have hO2 := Lib.hid (Kd.R_below (Kd.R_alloc hO.out (.cells #[.string x.f0, .string x.f1] 28)) hB2)
        have hBn := Lib.hid (HB1.out.trans (hB2.mono HB1.out.size))
        clear hB2
        go_wp2_with (first | ((with_reducible refine gate_builtin (b := .append) (xs := #[.tmp 17, .tmp 19]) rfl ?_); at_builtin; refine Kd.R_append k28 (w0 := w) w.heap.size rfl (.tmp 17) (.tmp 19) 22 28 (.agg #[(.string ⟨#[]⟩), (.string ⟨#[]⟩)]) 32 rfl Tryd.underlying22 info28 rfl (by decide) (by omega) _ acc x [.string x.f0, .string x.f1] (fun _ => True) (fun _ => False) rfl rfl ?aP (fun _ hk => hk.elim) ?aF ?aO ?aB ?aS ?aL ?_; (case aP => exact k28_mkM _ _ _ x); (case aB => exact (by repeat (first | (with_reducible first | exact hBn.out | apply below_alloc | apply pw_below_drewN | apply below_drew1) | exact hBn.out))); (case aF => exact (fun _ _ => trivial)); (case aO => exact (by (with_reducible repeat (first | apply Kd.R_alloc | apply Kd.R_drewN | apply Kd.R_drew)); exact hO2.out)); (case aS => exact (below_size (by repeat (first | (with_reducible first | exact hBn.out | apply below_alloc | apply pw_below_drewN | apply below_drew1) | exact hBn.out)))); (case aL => omega); intro v137 w19 ho hb hg hat; have HO138 := Lib.hid ho; have HB138 := Lib.hid hb; clear ho hb hg hat))
        go_roundw
        case rel => exact ⟨k + 1, by omega, by go_num, Lib.hid (by
            rw [HTF.out, HP.out]
            simp only [Bool.not_false, if_true]
            exact HO138.out), Lib.hid HB138.out⟩
        case measure => simp [RowKit.intOf]; omega
    · go_wp2
      go_ret
      have e : l0.take k = l0 := List.take_of_length_le (by omega)
      have hO' := hO.out
      rw [e] at hO'
      exact ⟨_, rfl, hO', hB.out⟩
end Go.Proofs.YthmpfncidpjnjaaDoor.P
namespace Go.Proofs.YthmpfncidpjnjaaDoor.H
open Go.RowKit Go.Shelf Go Go.Proofs.YthmpfncidpjnjaaDoorW.PrintWords Go.Proofs.YthmpfncidpjnjaaDoorW.PrintLast Go.Proofs.YthmpfncidpjnjaaDoorW.PrintMore
attribute [local go_sem] Oper.semAt_some
/-- What slices.Backward yields: places and texts, the last one first. -/
def vback (l : List ByteArray) : List (Array Value) := (List.range l.length).map fun k => #[.int .i64 ((l.length - 1 - k : Nat) : Int), .string (l.getD (l.length - 1 - k) ByteArray.empty)]
theorem addr_block (a : Addr) (n : Nat) : (a.add n).block = a.block := by unfold Addr.add; split <;> rfl
theorem vback_len (l : List ByteArray) : (vback l).length = l.length := by simp [vback]
theorem vback_at (l : List ByteArray) (k j : Nat) (h : j + k + 1 = l.length) : (vback l)[k]? = some #[.int .i64 (j : Int), .string (l.getD j ByteArray.empty)] := by
  unfold vback
  rw [List.getElem?_map, List.getElem?_range (by omega)]
  have e : l.length - 1 - k = j := by omega
  simp [e]
set_option maxRecDepth 100000 in
set_option maxHeartbeats 4000000 in
theorem back_in (n l bp : Nat) (xs : List ByteArray) (A : Option Addr) (c : Nat) (S : Nat → Prop) (J : Nat → World → Prop) (W : World)
    (hp : W.cell? ⟨bp, 0, none⟩ = some (.slice A xs.length c)) (hc : xs.length ≤ c) (hC : Kd.C Kd.string W A xs.length xs) (hS0 : S bp) (hSA : ∀ ad, A = some ad → S ad.block)
    (hY : ∀ k x W1, J k W1 → (vback xs)[k]? = some x → YieldAt Fence.wide (n - 1) Tryd.prog l x W1 fun e W' => e = .returned (.bool true) ∧ J (k + 1) W' ∧ ∀ b, S b → W'.heap[b]? = W1.heap[b]?)
    (h0 : J 0 W) :
    CallsIn Fence.wide n Tryd.prog 40 #[.func (.yield l) #[] #[], .pointer (some ⟨bp, 0, none⟩)] W fun e W' => (∃ v, e = .returned v) ∧ J (vback xs).length W' := by
  have HP := Lib.hid hp
  have HC := Lib.hid hC
  have HSA := Lib.hid hSA
  have HY := Lib.hid hY
  have H0 := Lib.hid h0
  have hmax : xs.length ≤ 9223372036854775807 := Kd.C_max hC
  clear hC hSA hY h0
  refine callsIn_of_wp Tryd.func40 rfl trivial ?_ rfl
  simp only [Tryd.ntmps40, List.size_toArray, List.length_cons, List.length_nil, Nat.reduceAdd, Nat.reduceSub, Array.replicate_succ, Array.replicate_zero, List.push_toArray, List.append_toArray, List.nil_append, List.cons_append]
  gi_wp2
  clear hp
  gi_loopw [3] (fun i wr => ∃ k : Nat, k ≤ xs.length ∧ i = .int .i64 ((xs.length : Int) - 1 - (k : Int)) ∧ Hid (J k wr) ∧ Hid (∀ b, S b → wr.heap[b]? = W.heap[b]?)) (fun i _ => (RowKit.intOf i + 1).toNat)
  case atStart => exact ⟨0, Nat.zero_le _, by simp, H0, Lib.hid (fun b _ => rfl)⟩
  case round =>
    obtain ⟨k, hk, hi, hJ, hB⟩ := hrel
    by_cases hlt : k < xs.length
    · obtain ⟨j, hj⟩ : ∃ j, j + k + 1 = xs.length := ⟨xs.length - 1 - k, by omega⟩
      have e1 : (xs.length : Int) - 1 - (k : Int) = (j : Int) := by omega
      rw [e1] at hi
      subst hi
      have hp := (World.cell?_of_block (a := ⟨bp, 0, none⟩) (hB.out bp hS0)).trans HP.out
      obtain ⟨ad, rfl, hx⟩ := Kd.at_string HC.out (j : Int) (by omega) (by omega)
      have hx2 := (World.cell?_of_block (a := ad.add (j : Int).toNat) (hB.out _ (by rw [addr_block]; exact HSA.out ad rfl))).trans hx
      rw [Int.toNat_natCast] at hx2
      clear hx
      have hrd : rdOf ByteArray.empty xs (j : Int) = xs.getD j ByteArray.empty := by simp [rdOf]
      rw [hrd] at hx2
      clear hrd
      have g1 := vback_at xs k j hj
      obtain ⟨x, hx⟩ : ∃ x, x = xs.getD j ByteArray.empty := ⟨_, rfl⟩
      rw [← hx] at hx2 g1
      clear hx
      obtain ⟨fn, tmps, assign, body, hy, hR⟩ := HY.out k _ wr hJ.out g1
      have b1 : (0 : Int) ≤ (j : Int) := by omega
      have b2 : (j : Int) < (xs.length : Int) := by omega
      have b3 : (j : Int) ≤ 9223372036854775806 := by omega
      have HJ := Lib.hid hj
      clear e1 hk hlt hj g1
      gi_wp2_with fail
      refine ⟨(fun h => by simp [Fence.wide] at h), hR.mono ?_⟩
      rintro e W3 ⟨rfl, hJ3, hk3⟩
      gi_wp2_with fail
      go_roundw
      case rel => exact ⟨k + 1, by have := HJ.out; omega, by have := HJ.out; congr 1; omega, Lib.hid hJ3, Lib.hid (fun b hb => (hk3 b hb).trans (hB.out b hb))⟩
      case measure => first | (simp [RowKit.intOf]; done) | (simp [RowKit.intOf]; omega)
    · obtain rfl : k = xs.length := by omega
      have e1 : (xs.length : Int) - 1 - (xs.length : Int) = -1 := by omega
      rw [e1] at hi
      subst hi
      clear e1 hk hlt
      gi_wp2_with fail
      go_end0
      exact ⟨⟨_, rfl⟩, by rw [vback_len]; exact hJ.out⟩
end Go.Proofs.YthmpfncidpjnjaaDoor.H
