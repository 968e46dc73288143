/- The hand contracts of package field in the form of the printed ones: plain functions and what the Go functions do. -/
import Derived.Test.YtmokfemljgbkeaaDoorPx0
import Derived.Test.YtmokfemljgbkeaaDoorHC
import Derived.Test.YtmokfemljgbkeaaDoorHD
import Derived.Test.YtmokfemljgbkeaaDoorHE
namespace Go.Proofs.YtmokfemljgbkeaaDoor.P
open Go.RowKit Go.Proofs.YtmokfemljgbkeaaDoorW.PrintWords Go.Proofs.YtmokfemljgbkeaaDoorW.PrintLast Go.Proofs.YtmokfemljgbkeaaDoorW.PrintMore

def field_Name.f (a0 : ByteArray) : Option Bool := if a0.size ≤ 9223372036854775806 then some (Sp.nameB a0.data.toList) else none
theorem field_Name.calls (a0 : ByteArray) (r : Bool) (w : World) (h : field_Name.f a0 = some r) :
    Calls Tryd.prog 14 #[.string a0] w fun e w' => e = .returned (.bool r) ∧ Drawn0 w w' := by
  unfold field_Name.f at h
  split at h
  · injection h with h
    subst h
    exact (H.name_any a0 w (by omega)).mono fun e w' ⟨h1, h2⟩ => ⟨h1, h2 ▸ Drawn0.refl w⟩
  · cases h
def field_Value.f (a0 : ByteArray) : Option Bool := if a0.size ≤ 9223372036854775806 then some (Sp.valB a0.data.toList) else none
theorem field_Value.calls (a0 : ByteArray) (r : Bool) (w : World) (h : field_Value.f a0 = some r) :
    Calls Tryd.prog 15 #[.string a0] w fun e w' => e = .returned (.bool r) ∧ Below w.heap.size w w' := by
  unfold field_Value.f at h
  split at h
  · injection h with h
    subst h
    exact H.value_any a0 w (by omega)
  · cases h
def field_Trim.f (a0 : ByteArray) : Option ByteArray := if a0.size ≤ 9223372036854775806 then some ⟨(Sp.trim a0.data.toList).toArray⟩ else none
theorem field_Trim.calls (a0 : ByteArray) (r : ByteArray) (w : World) (h : field_Trim.f a0 = some r) :
    Calls Tryd.prog 17 #[.string a0] w fun e w' => e = .returned (.string r) ∧ Below w.heap.size w w' := by
  unfold field_Trim.f at h
  split at h
  · injection h with h
    subst h
    exact H.trim_any a0 w (by omega)
  · cases h
def field_Lower.f (a0 : ByteArray) : Option ByteArray := if a0.size ≤ 9223372036854775806 then some ⟨(Sp.lower a0.data.toList).toArray⟩ else none
theorem field_Lower.calls (a0 : ByteArray) (r : ByteArray) (w : World) (h : field_Lower.f a0 = some r) :
    Calls Tryd.prog 16 #[.string a0] w fun e w' => e = .returned (.string r) ∧ Below w.heap.size w w' := by
  unfold field_Lower.f at h
  split at h
  · injection h with h
    subst h
    exact H.lower_any a0 w (by omega)
  · cases h
def strings_Cut.f (a0 : ByteArray) (a1 : ByteArray) : Option (ByteArray × ByteArray × Bool) :=
  if a0.size ≤ 9223372036854775806 then
    match a1.data.toList with
    | [c] => some (⟨(Sp.cutL c a0.data.toList).toArray⟩, ⟨(Sp.cutR c a0.data.toList).toArray⟩, Sp.cutIs c a0.data.toList)
    | _ => none
  else none
theorem strings_Cut.calls (a0 : ByteArray) (a1 : ByteArray) (r1 : ByteArray) (r2 : ByteArray) (r3 : Bool) (w : World) (h : strings_Cut.f a0 a1 = some (r1, r2, r3)) :
    Calls Tryd.prog 22 #[.string a0, .string a1] w fun e w' => e = .returned (.tuple #[.string r1, .string r2, .bool r3]) ∧ Drawn0 w w' := by
  unfold strings_Cut.f at h
  split at h
  · split at h
    · rename_i c hc
      injection h with h
      injection h with h1 h
      injection h with h2 h3
      subst h1 h2 h3
      have e : a1 = ⟨#[c]⟩ := H.ba_ext (by rw [hc])
      subst e
      exact (H.cut_any a0 c w (by omega)).mono fun e w' ⟨h1, n, h2⟩ => ⟨h1, ⟨n, h2⟩⟩
    · cases h
  · cases h

/-- Texts that are no longer than memory is. -/
def smallB (l : List ByteArray) : Bool := l.all fun x => decide (x.size ≤ 9223372036854775806)
theorem smallB_small {l : List ByteArray} (h : smallB l = true) : H.Small l := fun x hx => by
  unfold smallB at h
  rw [List.all_eq_true] at h
  have := of_decide_eq_true (h x hx)
  omega
def keeps (l1 : List ByteArray) (x : S25) : Bool := !(l1.any (H.sameName x.f0))
def field_Drop.f (l0 : List S25) (l1 : List ByteArray) : Option (List S25) :=
  if smallB (l0.map (·.f0)) && (smallB l1 && (decide (l0.length < 4398046511104) && decide (l1.length < 4398046511104))) then some (l0.filter (keeps l1)) else none

theorem take_filter (l : List S25) (p : S25 → Bool) (k : Nat) (h : k < l.length) : (l.take (k + 1)).filter p = (l.take k).filter p ++ (if p (l.getD k z25) then [l.getD k z25] else []) := by
  rw [List.take_succ_eq_append_getElem h, List.filter_append, List.getD_eq_getElem?_getD, List.getElem?_eq_getElem h]
  simp only [List.filter_cons, List.filter_nil, Option.getD_some]
theorem two_cells (W : World) (c0 c1 : Value) (t : Nat) : (W.alloc (.cells #[c0, c1] t)).cell? ⟨W.heap.size, 0, none⟩ = some c0 := by
  have h := heap_alloc_new W (.cells #[c0, c1] t)
  unfold World.cell?
  rw [h]
  rfl
theorem filter_len (l : List S25) (p : S25 → Bool) (k : Nat) (hl : l.length < 4398046511104) : ((l.take k).filter p).length < 4398046511104 := by
  have h1 := List.length_filter_le p (l.take k)
  have h2 : (l.take k).length ≤ l.length := by simp [List.length_take]; omega
  omega

set_option maxHeartbeats 3200000 in
set_option maxRecDepth 100000 in
theorem field_Drop.calls (A0 : Option Addr) (c0 : Nat) (l0 : List (S25)) (A1 : Option Addr) (c1 : Nat) (l1 : List ByteArray) (r : List (S25)) (w : World) (hr0 : Kd.C k25 w A0 l0.length l0) (hc0 : l0.length ≤ c0) (hr1 : Kd.C Kd.string w A1 l1.length l1) (hc1 : l1.length ≤ c1) (h : field_Drop.f l0 l1 = some r) :
    Calls Tryd.prog 10 #[.slice A0 l0.length c0, .slice A1 l1.length c1] w fun e w' => ∃ v0_ : Value, e = .returned (v0_) ∧ Kd.R k25 25 w' w.heap.size (fun _ => True) v0_ r ∧ Below w.heap.size w w' := by
  unfold field_Drop.f at h
  split at h
  case isFalse => cases h
  case isTrue hs =>
  injection h with h
  subst h
  simp only [Bool.and_eq_true, decide_eq_true_eq] at hs
  obtain ⟨hs0, hs1, hl0, hl1⟩ := hs
  have HS0 := Lib.hid (smallB_small hs0)
  have HS1 := Lib.hid (smallB_small hs1)
  have HR0 := Lib.hid hr0
  have HR1 := Lib.hid hr1
  clear hr0 hr1 hs0 hs1
  have hu := Tryd.underlying25
  go_enter Tryd.func10, Tryd.ntmps10
  go_wp2
  go_loopw [4, 6, 9] (fun v _ i wr => ∃ k : Nat, k ≤ l0.length ∧ i = .int .i64 k ∧ Hid (Kd.R k25 25 wr w.heap.size (fun _ => True) v ((l0.take k).filter (keeps l1))) ∧ Hid (Below w.heap.size w wr)) (fun _ _ i _ => l0.length - (RowKit.intOf i).toNat)
  case atStart => exact ⟨0, Nat.zero_le _, rfl, Lib.hid (Kd.R_nil _ _ _ _ _), Lib.hid (Below.refl _ _)⟩
  case round =>
    obtain ⟨k, hk, rfl, hO, hB⟩ := hrel
    by_cases hlt : k < l0.length
    · obtain ⟨ad, rfl, hx0, hx1⟩ := at_T25 HR0.out (k : Int) (by omega) (by omega)
      replace hx0 := (hB.out.cell (World.block_lt_of_cell? w _ hx0)).trans hx0
      replace hx1 := (hB.out.cell (World.block_lt_of_cell? w _ hx1)).trans hx1
      rw [Int.toNat_natCast] at hx0 hx1
      have hx : rd_T25 l0 (k : Int) = l0.getD k z25 := by simp [rd_T25]
      rw [hx] at hx0 hx1
      clear hx
      obtain ⟨x, hx⟩ : ∃ x, x = l0.getD k z25 := ⟨_, rfl⟩
      rw [← hx] at hx0 hx1
      have hxs : x.f0.size ≤ 9223372036854775807 := by
        rw [hx, List.getD_eq_getElem?_getD, List.getElem?_eq_getElem hlt]
        exact HS0.out _ (List.mem_map.mpr ⟨_, List.getElem_mem _, rfl⟩)
      have HX := Lib.hid hx
      clear hx
      have hb1 := below_alloc hB.out (.cells #[.string x.f0, .string x.f1] 25)
      have K := Lib.hid (H.has_any l1 x.f0 A1 c1 (wr.alloc (.cells #[.string x.f0, .string x.f1] 25)) wr.heap.size (by simp) HS1.out hxs (by omega) (Kd.C_below HR1.out hb1) (two_cells _ _ _ _))
      have HB1 := Lib.hid hb1
      clear hb1
      have hp : keeps l1 x = !(l1.any (H.sameName x.f0)) := rfl
      have hcells : ∀ w', Below (wr.heap.size + 1) (wr.alloc (.cells #[.string x.f0, .string x.f1] 25)) w' → w'.cell? ⟨wr.heap.size, 0, none⟩ = some (.string x.f0) ∧ w'.cell? ⟨wr.heap.size, 1, none⟩ = some (.string x.f1) := fun w' hb => by
        have g := heap_alloc_new wr (.cells #[.string x.f0, .string x.f1] 25)
        refine ⟨(hb.cell (p := ⟨wr.heap.size, 0, none⟩) (by simp)).trans ?_, (hb.cell (p := ⟨wr.heap.size, 1, none⟩) (by simp)).trans ?_⟩
        · unfold World.cell?; rw [g]; rfl
        · unfold World.cell?; rw [g]; rfl
      have HCe := Lib.hid hcells
      clear hcells
      have htf := take_filter l0 (keeps l1) k hlt
      have hfl := filter_len l0 (keeps l1) k hl0
      rw [← HX.out] at htf
      obtain ⟨acc, hacc⟩ : ∃ acc, acc = (l0.take k).filter (keeps l1) := ⟨_, rfl⟩
      rw [← hacc] at htf hO hfl
      have HTF := Lib.hid htf
      clear htf hacc
      cases hv : l1.any (H.sameName x.f0) with
      | true =>
        rw [hv] at K hp
        have HP := Lib.hid hp
        clear hv hp
        go_wp2_with fail
        refine K.out.mono ?_; rintro e w' ⟨rfl, hB2⟩
        have hB3 := hB2.mono (show wr.heap.size + 1 ≤ (wr.alloc (.cells #[.string x.f0, .string x.f1] 25)).heap.size by simp)
        go_wp2_with fail
        go_roundw
        case rel => exact ⟨k + 1, by omega, by go_num, Lib.hid (by
            rw [HTF.out, HP.out]
            simp only [Bool.not_true, Bool.false_eq_true, if_false, List.append_nil]
            exact Kd.R_below (Kd.R_alloc hO.out _) hB2), Lib.hid (HB1.out.trans (hB2.mono HB1.out.size))⟩
        case measure => simp [RowKit.intOf]; omega
      | false =>
        rw [hv] at K hp
        have HP := Lib.hid hp
        clear hv hp
        go_wp2_with fail
        refine K.out.mono ?_; rintro e w' ⟨rfl, hB2⟩
        obtain ⟨g0, g1⟩ := HCe.out w' (by simpa using hB2)
        have hO2 := Lib.hid (Kd.R_below (Kd.R_alloc hO.out (.cells #[.string x.f0, .string x.f1] 25)) hB2)
        have hBn := Lib.hid (HB1.out.trans (hB2.mono HB1.out.size))
        clear hB2
        go_wp2_with (first | ((with_reducible refine gate_builtin (b := .append) (xs := #[.tmp 17, .tmp 19]) rfl ?_); at_builtin; refine Kd.R_append k25 (w0 := w) w.heap.size rfl (.tmp 17) (.tmp 19) 22 25 (.agg #[(.string ⟨#[]⟩), (.string ⟨#[]⟩)]) 32 rfl Tryd.underlying22 info25 rfl (by decide) (by omega) _ acc x [.string x.f0, .string x.f1] (fun _ => True) (fun _ => False) rfl rfl ?aP (fun _ hk => hk.elim) ?aF ?aO ?aB ?aS ?aL ?_; (case aP => exact k25_mkM _ _ _ x); (case aB => exact (by repeat (first | (with_reducible first | exact hBn.out | apply below_alloc | apply pw_below_drewN | apply below_drew1) | exact hBn.out))); (case aF => exact (fun _ _ => trivial)); (case aO => exact (by (with_reducible repeat (first | apply Kd.R_alloc | apply Kd.R_drewN | apply Kd.R_drew)); exact hO2.out)); (case aS => exact (below_size (by repeat (first | (with_reducible first | exact hBn.out | apply below_alloc | apply pw_below_drewN | apply below_drew1) | exact hBn.out)))); (case aL => omega); intro v137 w19 ho hb hg hat; have HO138 := Lib.hid ho; have HB138 := Lib.hid hb; clear ho hb hg hat))
        go_roundw
        case rel => exact ⟨k + 1, by omega, by go_num, Lib.hid (by
            rw [HTF.out, HP.out]
            simp only [Bool.not_false, if_true]
            exact HO138.out), Lib.hid HB138.out⟩
        case measure => simp [RowKit.intOf]; omega
    · go_wp2
      go_ret
      have e : l0.take k = l0 := List.take_of_length_le (by omega)
      have hO' := hO.out
      rw [e] at hO'
      exact ⟨_, rfl, hO', hB.out⟩
end Go.Proofs.YtmokfemljgbkeaaDoor.P
