/- The contract of field.Items in the printed form. -/
import Derived.Test.YtljppmpigijgaaaDoorHN
import Derived.Test.YtljppmpigijgaaaDoorHZ
namespace Go.Proofs.YtljppmpigijgaaaDoor.P
open Go.RowKit Go.Shelf Go.Proofs.YtljppmpigijgaaaDoorW.PrintWords Go.Proofs.YtljppmpigijgaaaDoorW.PrintLast Go.Proofs.YtljppmpigijgaaaDoorW.PrintMore
attribute [local go_sem] Oper.semAt_some
def itemsB (s : ByteArray) : List ByteArray := (Sp.items s.data.toList).map H.mkB
def field_Items.f (a0 : ByteArray) : Option (List ByteArray) := if a0.size ≤ 4294967280 then some (itemsB a0) else none

theorem pieces_any (s : ByteArray) (w : World) :
    Calls Tryd.prog 40 #[.string s] w fun e w' => e = .returned (.func (.func 57) #[] #[.pointer (some ⟨w.heap.size, 0, none⟩)]) ∧ w' = w.alloc (.cells #[.string s] 9) := by
  go_enter Tryd.func40, Tryd.ntmps40
  go_wp2
  go_ret
  exact ⟨rfl, rfl⟩
theorem two_blocks (W : World) (o0 o1 : Obj) : ((W.alloc o0).alloc o1).heap[W.heap.size]? = some o0 ∧ ((W.alloc o0).alloc o1).heap[W.heap.size + 1]? = some o1 := by
  have e : ((W.alloc o0).alloc o1).heap = (W.heap.push o0).push o1 := rfl
  rw [e]
  refine ⟨?_, ?_⟩ <;> simp only [Array.getElem?_push, Array.size_push] <;> repeat (first | rw [if_pos trivial] | rw [if_neg (by omega)] | rw [if_pos (by omega)])
theorem infoStr : (Tryd.prog.info? 9).map (fun i => (i.zero, i.size, i.bytes)) = some (some (.string ⟨#[]⟩), 1, 16) := by kernel_rfl
theorem cnt_le (l : List UInt8) : (Sp.parts 44 l).length ≤ l.length + 1 := by
  induction l with
  | nil => simp [Sp.parts]
  | cons b l ih =>
    rw [Sp.parts]
    split
    · simp; omega
    · split
      · simp
      · rename_i q r e; rw [e] at ih; simp at ih ⊢; omega
theorem items_le (s : ByteArray) : (itemsB s).length ≤ s.size + 1 := by
  unfold itemsB Sp.items
  rw [List.length_map]
  refine Nat.le_trans (List.length_filter_le _ _) ?_
  rw [List.length_map]
  have := cnt_le s.data.toList
  simpa using this
theorem vitems_eq (s : ByteArray) : H.vitems s.data.toList = (itemsB s).map Value.string := by
  unfold H.vitems itemsB
  rw [List.map_map]; rfl

/-- What holds between two items that are put. -/
structure ItemAt (s : ByteArray) (h : Nat) (w : World) (j : Nat) (W : World) : Prop where
  r : ∃ v, W.heap[h]? = some (.cells #[v] 27 (0, 0)) ∧ W.ownsRow (h + 10) 9 1 v ((itemsB s).take j).length (encs Value.string ((itemsB s).take j))
  b : Below h w W

set_option maxRecDepth 100000 in
set_option maxHeartbeats 4000000 in
theorem items_in (n : Nat) (s : ByteArray) (w : World) (hs : s.size ≤ 4294967280) :
    CallsIn Fence.wide n Tryd.prog 25 #[.string s] w fun e w' => ∃ v0_ : Value, e = .returned (v0_) ∧ Kd.R Kd.string 9 w' w.heap.size (fun _ => True) v0_ (itemsB s) ∧ Below w.heap.size w w' := by
  obtain ⟨i0, hi0, hz0, hz1, hz2⟩ := info_parts infoStr
  have hpc := fun w => (callsIn_wide (n := n - 1)).2 (pieces_any s w)
  have HP := Lib.hid hpc
  clear hpc
  have hit := items_le s
  obtain ⟨h, hh⟩ : ∃ h, h = w.heap.size := ⟨_, rfl⟩
  refine callsIn_of_wp_marks Tryd.func25 rfl trivial ?_ rfl
  simp only [Tryd.ntmps25, List.size_toArray, List.length_cons, List.length_nil, Nat.reduceAdd, Nat.reduceSub, Array.replicate_succ, Array.replicate_zero, List.push_toArray, List.append_toArray, List.nil_append, List.cons_append]
  gi_wp2_with fail
  refine ⟨trivial, (fun h => by simp [Fence.wide] at h), (HP.out _).mono ?_⟩; rintro e w' ⟨rfl, rfl⟩
  gi_wp2_with fail
  obtain ⟨W0, hW0⟩ : ∃ W0, W0 = (w.alloc (.cells #[.slice none 0 0] 27)).alloc (.cells #[.string s] 9) := ⟨_, rfl⟩
  have hsz0 : W0.heap.size = h + 2 := by rw [hW0, hh]; simp
  have hb0 : Below h w W0 := by
    rw [hW0, hh]
    exact ((Below.refl _ w).alloc (Nat.le_refl _) _).alloc (by simp) _
  obtain ⟨g0, g1⟩ := two_blocks w (.cells #[.slice none 0 0] 27) (.cells #[.string s] 9)
  rw [← hW0, ← hh] at g0 g1
  rw [← hW0]
  rw [← hh]
  have HH := Lib.hid hh
  clear hh
  have c1 := H.cell_of_heap g1
  clear hW0 g1
  refine H.rf_all (gf := 57) (lb := #[.pointer (some ⟨h + 1, 0, none⟩)]) rfl (enters_of Tryd.func57 (by kernel_rfl) rfl) 6 rfl
    (H.vitems s.data.toList) (h + 10) (fun r => h + 4 ≤ r ∧ r < h + 10) (fun b => h + 4 ≤ b ∧ b < h + 10) (fun b hb => by omega) (fun r hr => by omega)
    (fun J' W' hsz' hB' hA' hY' h0' => H.pieces_in (n - 1) (n - 1 - 1) _ (h + 1) s J' W' (by omega) ((hB'.cell (p := ⟨h + 1, 0, none⟩) (by show h + 1 < _; omega)).trans c1) (by omega)
      (fun k A B row hj hg hr => hA' k A B row hj hg (fun r e => by have := hr r e; omega))
      (fun k x W1 hj hz hx => YieldAt.mono (hY' k x W1 hj (by omega) hx) (fun e w' hq => ⟨hq.1, hq.2.1, hq.2.2.1, fun b h1 h2 => hq.2.2.2 b (by omega)⟩)) h0')
    (ItemAt s h w) ?_ ⟨⟨_, g0, by simpa [encs] using World.ownsRow_nil _ _ _ _⟩, hb0⟩
    (fun x => { tmps := #[.string s, undef, .pointer (some ⟨h, 0, none⟩), x, .string s, .func (.func 57) #[] #[.pointer (some ⟨h + 1, 0, none⟩)], x, undef, undef, undef, undef, undef], defers := [] }) ?_ ?_ ?_
  · rintro k A B row ⟨⟨v, hv, hr⟩, hB⟩ hg hrow
    have hr3 : ∀ r, row = some r → h < r ∧ r < h + 10 := fun r e => by have := hrow r e; omega
    refine ⟨⟨v, (hg.block h (Array.getElem?_eq_some_iff.1 hv).1 (fun e => by have := hr3 h e.symm; omega)).trans hv, hr.kept hg ?_⟩, hB.grown hg (by have := (Array.getElem?_eq_some_iff.1 hv).1; omega) (fun k e => by have := hr3 k e; omega)⟩
    cases hvb : v.ownBlock with
    | none => exact .inl rfl
    | some b =>
      refine .inr (fun e => ?_)
      have h1 := own_base hr b hvb
      have h2 := hr3 b e.symm
      omega
  · intro l' x W' K hK
    gi_wp2
    exact hK
  · rintro l' k x W' ⟨⟨v, hv, hr⟩, hB⟩ hx hlt hB0
    rw [vitems_eq, List.getElem?_map] at hx
    obtain ⟨y, hy, rfl⟩ : ∃ y, (itemsB s)[k]? = some y ∧ x = .string y := by
      cases hq : (itemsB s)[k]? with
      | none => rw [hq] at hx; cases hx
      | some y => rw [hq] at hx; injection hx with hx; exact ⟨y, rfl, hx.symm⟩
    obtain ⟨hk, hy2⟩ := List.getElem?_eq_some_iff.mp hy
    have htk : (itemsB s).take (k + 1) = (itemsB s).take k ++ [y] := by rw [List.take_succ_eq_append_getElem hk, hy2]
    have hlk : ((itemsB s).take k).length = k := by rw [List.length_take]; omega
    have HTK := Lib.hid htk
    have hc := H.cell_of_heap hv
    have hf := H.frozen_of_heap hv
    have hne : ∀ b, v.ownBlock = some b → h + 10 ≤ b := fun b e => own_base hr b e
    have HV := Lib.hid hv
    have HNE := Lib.hid hne
    have HXS := Lib.hid hlk
    rw [hlk] at hr
    obtain ⟨acc, hacc⟩ : ∃ acc, acc = encs Value.string ((itemsB s).take k) := ⟨_, rfl⟩
    rw [← hacc] at hr
    have HA := Lib.hid hacc
    clear hx hy hy2 htk hlk hv hne hacc
    gi_wp2_with (gi_at_builtin; refine wpListIn_append_own _ rfl _ _ 27 rfl (h + 10) 9 i0 _ 1 16 Tryd.underlying27 hi0 hz0 hz1 hz2 rfl (by decide) _ _ _ rfl (hr.alloc _) ⟨W'.heap.size, 0, none⟩ 1 1 [.string y] rfl rfl (cell_one_new _ _ _) (by simp [Value.oneCell']) (by unfold maxLen; omega) (by omega) (by simp; omega) ?_; intro v' w1 hown' hgrow _; obtain ⟨g', cap', rfl⟩ := ownsRow_succ hown'; have hq1 : w1.heap[h]? = W'.heap[h]? := (hgrow.block h (by simp; omega) (fun e => by have := HNE.out h e.symm; omega)).trans (Below.heap_alloc W' _ h (by omega)); have hc1 := (World.cell?_of_block (a := ⟨h, 0, none⟩) hq1).trans hc; have hf1 := (World.frozen?_of_block (a := ⟨h, 0, none⟩) hq1).trans hf)
    have hq : ∀ b, b < h + 10 → w1.heap[b]? = W'.heap[b]? := fun b hb => (hgrow.block b (by simp; omega) (fun e => by have := HNE.out b e.symm; omega)).trans (Below.heap_alloc W' _ b (by omega))
    have hq3 : ∀ b u, b ≠ h → (w1.setCell ⟨h, 0, none⟩ u).heap[b]? = w1.heap[b]? := fun b u hb => Below.heap_setCell w1 ⟨h, 0, none⟩ u b hb
    have hsz1 : W'.heap.size ≤ w1.heap.size := Nat.le_trans (by simp) hgrow.size
    have hB1 : Below h w w1 := (hB.alloc (by omega) _).grown hgrow (by simp; omega) (fun k e => by have := HNE.out k e; omega)
    refine ⟨by simpa [World.setCell] using hsz1, (hq3 _ _ (by omega)).trans (hq _ (by omega)), (hq3 _ _ (by omega)).trans (hq _ (by omega)), fun b hb => (hq3 b _ (by omega)).trans (hq b (by omega)), ⟨_, one_setCell ((hq h (by omega)).trans HV.out), ?_⟩, hB1.setCell (Nat.le_refl _) _⟩
    rw [HTK.out, List.length_append, HXS.out]
    have e2 : encs Value.string ((itemsB s).take k ++ [y]) = acc ++ [.string y] := by rw [HA.out]; simp [encs]
    rw [e2]
    exact hown'.kept (H.grown_set _ _ _) (.inr (fun e => by have := own_base hown' h e; omega))
  · rintro W' ⟨⟨v, hv, hr⟩, hB⟩ hd
    rw [hsz0] at hd ⊢
    have hlen : (H.vitems s.data.toList).length = (itemsB s).length := by rw [vitems_eq, List.length_map]
    rw [hlen, List.take_length] at hr
    clear hlen
    have hc := H.cell_of_heap hv
    have hf := H.frozen_of_heap hv
    obtain ⟨A, n0, c0, rfl⟩ : ∃ A n0 c0, v = .slice A n0 c0 := by
      rcases hr.2 with ⟨h1, _⟩ | ⟨g, cap, cur, h1, _⟩
      · exact ⟨_, _, _, h1⟩
      · exact ⟨_, _, _, h1⟩
    have hne : ∀ b, (Value.slice A n0 c0).ownBlock = some b → h + 10 ≤ b := fun b e => own_base hr b e
    have HR := Lib.hid hr
    have HV := Lib.hid hv
    have HNE := Lib.hid hne
    clear hr hv hne
    have c2 : (W'.setCell ⟨h, 0, none⟩ (.slice A n0 c0)).cell? ⟨h, 0, none⟩ = some (.slice A n0 c0) := World.cell?_setCell_same' _ _ _ (by rw [hc]; rfl)
    have hd2 : (W'.setCell ⟨h, 0, none⟩ (.slice A n0 c0)).heap[h + 2]? = some (.deferred (some [])) := (Below.heap_setCell W' ⟨h, 0, none⟩ _ (h + 2) (by show h + 2 ≠ h; omega)).trans hd
    have c3 : ((W'.setCell ⟨h, 0, none⟩ (.slice A n0 c0)).putObj (h + 2) (.deferred none)).cell? ⟨h, 0, none⟩ = some (.slice A n0 c0) := (World.cell?_of_block (a := ⟨h, 0, none⟩) (World.putObj_heap_other (by show h ≠ h + 2; omega))).trans c2
    have HC2 := Lib.hid c2
    have HC3 := Lib.hid c3
    clear c2 c3
    gi_wp2_with fail
    refine ⟨by simp, .inl ⟨_, _, rfl, run_takeDeferred hd2, ?_⟩⟩
    refine ⟨.slice A n0 c0, by simp [results, Tryd.results25, go_sem, HC3.out], _, rfl, ?_, ?_⟩
    · have h1 := HR.out.kept (H.grown_set W' h (.slice A n0 c0)) (by
        cases hvb : (Value.slice A n0 c0).ownBlock with
        | none => exact .inl rfl
        | some b => exact .inr (fun e => by have := HNE.out b hvb; injection e with e; omega))
      have h2 := ownsRow_putObj h1 (.deferred none) hd2 rfl
      have h3 := own_less h2 (show h ≤ h + 10 by omega)
      rw [← HH.out]
      exact Kd.R_of_own h3 (fun _ _ => trivial)
    · rw [← HH.out]
      exact (hB.setCell (Nat.le_refl _) _).grown (grownBy_putObj' _ _ _) (by have := (Array.getElem?_eq_some_iff.1 hd).1; simp [World.setCell]; omega) (fun k e => by cases e; omega)
theorem field_Items.calls (a0 : ByteArray) (r : List ByteArray) (w : World) (h : field_Items.f a0 = some r) :
    Calls Tryd.prog 25 #[.string a0] w fun e w' => ∃ v0_ : Value, e = .returned (v0_) ∧ Kd.R Kd.string 9 w' w.heap.size (fun _ => True) v0_ r ∧ Below w.heap.size w w' := by
  unfold field_Items.f at h
  split at h
  · injection h with h
    subst h
    exact (callsIn_wide (n := 9)).1 (items_in 9 a0 w (by assumption))
  · cases h
end Go.Proofs.YtljppmpigijgaaaDoor.P
