/- The contract of head.Right's look at the fields: slices.ContainsFunc with the function of a field that may not be. -/
import Derived.Test.YtljppmpigijgaaaDoorHN
import Derived.Deep.RegionWith
namespace Go.Proofs.YtljppmpigijgaaaDoor.P
open Go.RowKit Go.Shelf Go.Lib Go.Proofs.YtljppmpigijgaaaDoorW.PrintWords Go.Proofs.YtljppmpigijgaaaDoorW.PrintLast Go.Proofs.YtljppmpigijgaaaDoorW.PrintMore
open H (ret_bool ret_int)
/-- A field that may not be. -/
def badF (x : S32) : Bool := !Sp.nameB x.f0.data.toList || !Sp.valB x.f1.data.toList
theorem odd_any (n v : ByteArray) (w : World) (hn : n.size ≤ 9223372036854775807) (hv : v.size ≤ 9223372036854775807) :
    Calls Tryd.prog 31 #[.agg #[.string n, .string v]] w fun e w' => e = .returned (.bool (!Sp.nameB n.data.toList || !Sp.valB v.data.toList)) ∧ Below w.heap.size w w' := by
  have KN := fun W => Lib.hid (H.name_any n W hn)
  have KV := fun W => Lib.hid (H.value_any v W hv)
  generalize Sp.nameB n.data.toList = b at KN ⊢
  generalize Sp.valB v.data.toList = c at KV ⊢
  have HB0 := Lib.hid (Below.refl w.heap.size w)
  cases b
  · go_enter Tryd.func31, Tryd.ntmps31
    go_wp2_with fail
    refine (KN _).out.mono ?_; rintro e w' ⟨rfl, rfl⟩
    go_wp2_with fail
    go_ret
    exact ⟨rfl, below_alloc HB0.out _⟩
  · go_enter Tryd.func31, Tryd.ntmps31
    go_wp2_with fail
    refine (KN _).out.mono ?_; rintro e w' ⟨rfl, rfl⟩
    go_wp2_with fail
    refine (KV _).out.mono ?_; rintro e w' ⟨rfl, hB⟩
    go_wp2_with fail
    go_ret
    exact ⟨ret_bool (by simp), (below_alloc HB0.out _).trans (hB.mono (by simp))⟩
def idxQ {α : Type} (p : α → Bool) (l : List α) : Int := match l.findIdx? p with | some k => (k : Int) | none => -1
theorem idxQ_at {α : Type} (d : α) (p : α → Bool) (l : List α) (k : Nat) (hk : k < l.length) (h : ∀ j, j < k → p (l.getD j d) = false) (hp : p (l.getD k d) = true) : idxQ p l = k := by
  have e : l.findIdx? p = some k := by
    rw [List.findIdx?_eq_some_iff_getElem]
    refine ⟨hk, ?_, fun j hj => ?_⟩
    · rw [List.getD_eq_getElem?_getD, List.getElem?_eq_getElem hk] at hp
      exact hp
    · have := h j hj
      rw [List.getD_eq_getElem?_getD, List.getElem?_eq_getElem (by omega)] at this
      simpa using this
  unfold idxQ
  rw [e]
theorem idxQ_none {α : Type} (d : α) (p : α → Bool) (l : List α) (h : ∀ j, j < l.length → p (l.getD j d) = false) : idxQ p l = -1 := by
  have e : l.findIdx? p = none := by
    rw [List.findIdx?_eq_none_iff]
    intro x hx
    obtain ⟨j, hj, rfl⟩ := List.getElem_of_mem hx
    have := h j hj
    rw [List.getD_eq_getElem?_getD, List.getElem?_eq_getElem hj] at this
    exact this
  unfold idxQ
  rw [e]
theorem idxQ_any {α : Type} (p : α → Bool) (l : List α) : decide (0 ≤ idxQ p l) = l.any p := by
  unfold idxQ
  cases e : l.findIdx? p with
  | none =>
    rw [List.findIdx?_eq_none_iff] at e
    have : l.any p = false := by rw [List.any_eq_false]; intro x hx; rw [e x hx]; exact Bool.false_ne_true
    rw [this]; rfl
  | some k =>
    rw [List.findIdx?_eq_some_iff_getElem] at e
    obtain ⟨hk, hp, _⟩ := e
    have : l.any p = true := by rw [List.any_eq_true]; exact ⟨_, List.getElem_mem hk, hp⟩
    rw [this]
    simp
/-- Fields whose texts are no longer than memory is. -/
def smallF (l : List S32) : Bool := l.all fun x => decide (x.f0.size ≤ 9223372036854775806) && decide (x.f1.size ≤ 9223372036854775806)
theorem smallF_at {l : List S32} (h : smallF l = true) (k : Nat) (hk : k < l.length) : (l.getD k z32).f0.size ≤ 9223372036854775807 ∧ (l.getD k z32).f1.size ≤ 9223372036854775807 := by
  unfold smallF at h
  rw [List.all_eq_true] at h
  rw [List.getD_eq_getElem?_getD, List.getElem?_eq_getElem hk]
  have := h _ (List.getElem_mem hk)
  simp only [Bool.and_eq_true, decide_eq_true_eq] at this
  simp only [Option.getD_some]
  omega
set_option maxHeartbeats 1600000 in
theorem idxodd_any (l : List S32) (A : Option Addr) (c : Nat) (w : World) (hl : smallF l = true) (hn : l.length ≤ 9223372036854775807)
    (hr : Kd.C k32 w A l.length l) :
    Calls Tryd.prog 54 #[.slice A l.length c, .func (.func 31) #[] #[]] w fun e w' => e = .returned (.int .i64 (idxQ badF l)) ∧ Below w.heap.size w w' := by
  have HR := Lib.hid hr
  have HL := Lib.hid hl
  clear hr hl
  go_enter Tryd.func54, Tryd.ntmps54
  go_wp2
  go_loopw [5, 8] (fun _ i wr => ∃ k : Nat, k ≤ l.length ∧ i = .int .i64 k ∧ Hid (∀ j, j < k → badF (l.getD j z32) = false) ∧ Hid (Below w.heap.size w wr)) (fun _ i _ => l.length - (RowKit.intOf i).toNat)
  case atStart => exact ⟨0, Nat.zero_le _, rfl, Lib.hid (fun j hj => by omega), Lib.hid (Below.refl _ _)⟩
  case round =>
    obtain ⟨k, hk, rfl, hp, hB⟩ := hrel
    by_cases hlt : k < l.length
    · obtain ⟨ad, rfl, hx0, hx1⟩ := at_T32 HR.out (k : Int) (by omega) (by omega)
      replace hx0 := (hB.out.cell (World.block_lt_of_cell? w _ hx0)).trans hx0
      replace hx1 := (hB.out.cell (World.block_lt_of_cell? w _ hx1)).trans hx1
      rw [Int.toNat_natCast] at hx0 hx1
      have hx : rd_T32 l (k : Int) = l.getD k z32 := by simp [rd_T32]
      rw [hx] at hx0 hx1
      clear hx
      obtain ⟨x, hx⟩ : ∃ x, x = l.getD k z32 := ⟨_, rfl⟩
      rw [← hx] at hx0 hx1
      have hxs := smallF_at HL.out k hlt
      rw [← hx] at hxs
      have HX := Lib.hid hx
      clear hx
      have K := Lib.hid (odd_any x.f0 x.f1 wr hxs.1 hxs.2)
      have hb : badF x = (!Sp.nameB x.f0.data.toList || !Sp.valB x.f1.data.toList) := rfl
      rw [← hb] at K
      clear hb hxs
      cases hv : badF x with
      | true =>
        rw [hv] at K
        have HV := Lib.hid hv
        clear hv
        go_wp2_with fail
        refine K.out.mono ?_; rintro e w' ⟨rfl, hB2⟩
        go_wp2_with fail
        go_ret
        exact ⟨ret_int (idxQ_at z32 _ _ k hlt hp.out (by rw [← HX.out]; exact HV.out)).symm, hB.out.trans (hB2.mono hB.out.size)⟩
      | false =>
        rw [hv] at K
        have HV := Lib.hid hv
        clear hv
        go_wp2_with fail
        refine K.out.mono ?_; rintro e w' ⟨rfl, hB2⟩
        go_wp2_with fail
        go_roundw
        case rel => exact ⟨k + 1, by omega, by go_num, Lib.hid (fun j hj => by
          by_cases e : j = k
          · subst e; rw [← HX.out]; exact HV.out
          · exact hp.out j (by omega)), Lib.hid (hB.out.trans (hB2.mono hB.out.size))⟩
        case measure => simp [RowKit.intOf]; omega
    · go_wp2
      go_ret
      exact ⟨ret_int (idxQ_none z32 _ _ (fun j hj => hp.out j (by omega))).symm, hB.out⟩
theorem anyodd_any (l : List S32) (A : Option Addr) (c : Nat) (w : World) (hl : smallF l = true) (hn : l.length ≤ 9223372036854775807)
    (hr : Kd.C k32 w A l.length l) :
    Calls Tryd.prog 34 #[.slice A l.length c, .func (.func 31) #[] #[]] w fun e w' => e = .returned (.bool (l.any badF)) ∧ Below w.heap.size w w' := by
  rw [← idxQ_any]
  have K := Lib.hid (idxodd_any l A c w hl hn hr)
  generalize idxQ badF l = r at K ⊢
  clear hr hl
  go_enter Tryd.func34, Tryd.ntmps34
  go_wp2_with fail
  refine K.out.mono ?_; rintro e w' ⟨rfl, hB⟩
  go_wp2_with fail
  go_ret
  exact ⟨rfl, hB⟩
end Go.Proofs.YtljppmpigijgaaaDoor.P
