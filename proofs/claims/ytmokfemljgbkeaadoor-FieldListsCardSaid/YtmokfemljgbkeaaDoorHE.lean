/- The contract of field.Drop: fields whose names match none of some. -/
import Derived.Test.YtmokfemljgbkeaaDoorHC
import Derived.Test.YtmokfemljgbkeaaDoorWWords
import Derived.Deep.RegionHeld3
import Derived.Deep.RegionWith
namespace Go.Proofs.YtmokfemljgbkeaaDoor.H
open Go.RowKit Go.Shelf Go.Lib Go.Proofs.YtmokfemljgbkeaaDoorW.PrintWords

theorem lower_step (s : ByteArray) (w0 w : World) (hs : s.size ≤ 9223372036854775807) (hB : Below w0.heap.size w0 w) (b : Nat) (hb : b < w0.heap.size) (v : Value) (hc : w0.cell? ⟨b, 0, none⟩ = some v) :
    Calls Tryd.prog 16 #[.string s] w fun e w' => e = .returned (.string ⟨(Sp.lower s.data.toList).toArray⟩) ∧ (w'.cell? ⟨b, 0, none⟩ = some v ∧ Below w0.heap.size w0 w') :=
  (lower_any s w hs).mono fun e w' ⟨h1, h2⟩ =>
    have h3 : Below w0.heap.size w0 w' := hB.trans (h2.mono hB.size)
    ⟨h1, (h3.cell (p := ⟨b, 0, none⟩) hb).trans hc, h3⟩

set_option maxHeartbeats 1600000 in
theorem drop1_any (n f : ByteArray) (w : World) (b : Nat) (hb : b < w.heap.size) (hn : n.size ≤ 9223372036854775807) (hf : f.size ≤ 9223372036854775807) (hc : w.cell? ⟨b, 0, none⟩ = some (.string f)) :
    Calls Tryd.prog 21 #[.string n, .pointer (some ⟨b, 0, none⟩)] w fun e w' => e = .returned (.bool (Sp.lower n.data.toList == Sp.lower f.data.toList)) ∧ Below w.heap.size w w' := by
  have e := str_beq (Sp.lower n.data.toList) ⟨(Sp.lower f.data.toList).toArray⟩
  simp only [List.toList_toArray] at e
  rw [← e]
  clear e
  have kn := fun W hB => lower_step n w W hn hB b hb (.string f) hc
  have kf := fun W hB => lower_step f w W hf hB b hb (.string f) hc
  generalize (⟨(Sp.lower n.data.toList).toArray⟩ : ByteArray) = x at kn ⊢
  generalize (⟨(Sp.lower f.data.toList).toArray⟩ : ByteArray) = y at kf ⊢
  have KN := Lib.hid kn
  have KF := Lib.hid kf
  clear kn kf
  have hr := Below.refl w.heap.size w
  go_enter Tryd.func21, Tryd.ntmps21
  go_wp2_with fail
  go_region_held3 (fun W => W.cell? ⟨b, 0, none⟩ = some (.string f) ∧ Below w.heap.size w W) (first | exact ⟨by simpa using hc, hr.drew⟩ | exact ⟨by assumption, by assumption⟩ | exact ⟨by simpa using hc1, hB1.drew⟩)
    (first
      | (go_at_call_of 16 (Value.string n); refine (KN.out _ ?_).mono ?_; (first | exact hr.drew | assumption); rintro e w' ⟨rfl, hc1, hB1⟩)
      | (go_at_call_of 16 (Value.string f); refine (KF.out _ ?_).mono ?_; (first | exact hr.drew | assumption); rintro e w' ⟨rfl, hc1, hB1⟩))
  all_goals go_wp2_with fail
  all_goals go_ret
  all_goals exact ⟨rfl, by assumption⟩
/-- The names match. -/
def sameName (f n : ByteArray) : Bool := Sp.lower n.data.toList == Sp.lower f.data.toList
def idxP (p : ByteArray → Bool) (l : List ByteArray) : Int := match l.findIdx? p with | some k => (k : Int) | none => -1
theorem idxP_at (p : ByteArray → Bool) (l : List ByteArray) (k : Nat) (hk : k < l.length) (h : ∀ j, j < k → p (l.getD j ByteArray.empty) = false) (hp : p (l.getD k ByteArray.empty) = true) : idxP p l = (k : Int) := by
  have e : l.findIdx? p = some k := by
    rw [List.findIdx?_eq_some_iff_getElem]
    refine ⟨hk, ?_, fun j hj => ?_⟩
    · rw [List.getD_eq_getElem?_getD, List.getElem?_eq_getElem hk] at hp; exact hp
    · have := h j hj
      rw [List.getD_eq_getElem?_getD, List.getElem?_eq_getElem (by omega)] at this
      simpa using this
  unfold idxP; rw [e]
theorem idxP_none (p : ByteArray → Bool) (l : List ByteArray) (h : ∀ j, j < l.length → p (l.getD j ByteArray.empty) = false) : idxP p l = -1 := by
  have e : l.findIdx? p = none := by
    rw [List.findIdx?_eq_none_iff]
    intro x hx
    obtain ⟨j, hj, rfl⟩ := List.getElem_of_mem hx
    have := h j hj
    rw [List.getD_eq_getElem?_getD, List.getElem?_eq_getElem hj] at this
    exact this
  unfold idxP; rw [e]
theorem idxP_any (p : ByteArray → Bool) (l : List ByteArray) : decide (0 ≤ idxP p l) = l.any p := by
  unfold idxP
  cases e : l.findIdx? p with
  | none =>
    rw [List.findIdx?_eq_none_iff] at e
    have : l.any p = false := by rw [List.any_eq_false]; intro x hx; simp [e x hx]
    rw [this]; rfl
  | some k =>
    rw [List.findIdx?_eq_some_iff_getElem] at e
    obtain ⟨h, hp, _⟩ := e
    have : l.any p = true := by rw [List.any_eq_true]; exact ⟨l[k], List.getElem_mem _, hp⟩
    rw [this]; simp
def Small (l : List ByteArray) : Prop := ∀ x ∈ l, x.size ≤ 9223372036854775807
theorem Small.at {l : List ByteArray} (h : Small l) (k : Nat) : (l.getD k ByteArray.empty).size ≤ 9223372036854775807 := by
  rw [List.getD_eq_getElem?_getD]
  cases e : l[k]? with
  | none => simp
  | some x => exact h x (List.mem_of_getElem? e)

set_option maxHeartbeats 1600000 in
theorem idxf_any (l : List ByteArray) (f : ByteArray) (A : Option Addr) (c : Nat) (w : World) (b : Nat) (hb : b < w.heap.size) (hl : Small l) (hf : f.size ≤ 9223372036854775807) (hn : l.length ≤ 9223372036854775807)
    (hr : Kd.C Kd.string w A l.length l) (hc : w.cell? ⟨b, 0, none⟩ = some (.string f)) :
    Calls Tryd.prog 30 #[.slice A l.length c, .func (.func 21) #[] #[.pointer (some ⟨b, 0, none⟩)]] w fun e w' => e = .returned (.int .i64 (idxP (sameName f) l)) ∧ Below w.heap.size w w' := by
  have HR := Lib.hid hr
  have HL := Lib.hid hl
  have HC := Lib.hid hc
  clear hr hl hc
  go_enter Tryd.func30, Tryd.ntmps30
  go_wp2
  go_loopw [5, 8] (fun _ i wr => ∃ k : Nat, k ≤ l.length ∧ i = .int .i64 k ∧ Hid (∀ j, j < k → sameName f (l.getD j ByteArray.empty) = false) ∧ Hid (Below w.heap.size w wr)) (fun _ i _ => l.length - (RowKit.intOf i).toNat)
  case atStart => exact ⟨0, Nat.zero_le _, rfl, Lib.hid (fun j hj => by omega), Lib.hid (Below.refl _ _)⟩
  case round =>
    obtain ⟨k, hk, rfl, hp, hB⟩ := hrel
    by_cases hlt : k < l.length
    · obtain ⟨ad, rfl, hcell⟩ := Kd.at_string HR.out (k : Int) (by omega) (by omega)
      have hcell2 := (hB.out.cell (World.block_lt_of_cell? w _ hcell)).trans hcell
      clear hcell
      rw [Int.toNat_natCast] at hcell2
      have hx : rdOf ByteArray.empty l (k : Int) = l.getD k ByteArray.empty := by simp [rdOf]
      rw [hx] at hcell2
      clear hx
      obtain ⟨x, hx⟩ : ∃ x, x = l.getD k ByteArray.empty := ⟨_, rfl⟩
      rw [← hx] at hcell2
      have hxs : x.size ≤ 9223372036854775807 := by rw [hx]; exact HL.out.at k
      have HX := Lib.hid hx
      clear hx
      have K := Lib.hid (drop1_any x f wr b (Nat.lt_of_lt_of_le hb hB.out.size) hxs hf ((hB.out.cell (p := ⟨b, 0, none⟩) hb).trans HC.out))
      cases hv : (Sp.lower x.data.toList == Sp.lower f.data.toList) with
      | true =>
        rw [hv] at K
        have HV := Lib.hid hv
        clear hv
        go_wp2_with fail
        refine K.out.mono ?_; rintro e w' ⟨rfl, hB2⟩
        go_wp2_with fail
        go_ret
        exact ⟨ret_int (idxP_at _ _ k hlt hp.out (by rw [← HX.out]; exact HV.out)).symm, hB.out.trans (hB2.mono hB.out.size)⟩
      | false =>
        rw [hv] at K
        have HV := Lib.hid hv
        clear hv
        go_wp2_with fail
        refine K.out.mono ?_; rintro e w' ⟨rfl, hB2⟩
        go_wp2_with fail
        go_roundw
        case rel => exact ⟨k + 1, by omega, by go_num, Lib.hid (fun j hj => by
          by_cases e : j = k
          · subst e; rw [← HX.out]; exact HV.out
          · exact hp.out j (by omega)), Lib.hid (hB.out.trans (hB2.mono hB.out.size))⟩
        case measure => simp [RowKit.intOf]; omega
    · go_wp2
      go_ret
      exact ⟨ret_int (idxP_none _ _ (fun j hj => hp.out j (by omega))).symm, hB.out⟩

set_option maxHeartbeats 1600000 in
theorem has_any (l : List ByteArray) (f : ByteArray) (A : Option Addr) (c : Nat) (w : World) (b : Nat) (hb : b < w.heap.size) (hl : Small l) (hf : f.size ≤ 9223372036854775807) (hn : l.length ≤ 9223372036854775807)
    (hr : Kd.C Kd.string w A l.length l) (hc : w.cell? ⟨b, 0, none⟩ = some (.string f)) :
    Calls Tryd.prog 20 #[.slice A l.length c, .func (.func 21) #[] #[.pointer (some ⟨b, 0, none⟩)]] w fun e w' => e = .returned (.bool (l.any (sameName f))) ∧ Below w.heap.size w w' := by
  rw [← idxP_any]
  have K := Lib.hid (idxf_any l f A c w b hb hl hf hn hr hc)
  generalize idxP (sameName f) l = r at K ⊢
  clear hr hl hc
  go_enter Tryd.func20, Tryd.ntmps20
  go_wp2_with fail
  refine K.out.mono ?_; rintro e w' ⟨rfl, hB⟩
  go_wp2_with fail
  go_ret
  exact ⟨rfl, hB⟩

end Go.Proofs.YtmokfemljgbkeaaDoor.H
