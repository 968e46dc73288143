/- The law FieldBack in plain Lean: what the printed function comes to. -/
import Derived.Test.YtmokfemljgbkeaaDoorPB
import Derived.Test.YtmokfemljgbkeaaDoorPx5
namespace Go.Proofs.YtmokfemljgbkeaaDoor.P
open Go.RowKit Go.Proofs.YtmokfemljgbkeaaDoorW.PrintWords Go.Proofs.YtmokfemljgbkeaaDoorW.PrintLast Go.Proofs.YtmokfemljgbkeaaDoorW.PrintMore

set_option maxRecDepth 100000 in
theorem awake_at (k : Nat) (hk : 300 ≤ k) : lockagelaw05_awake.f k = some true := at_rounds lockagelaw05_awake.mono hk (by kernel_rfl)

def table : List ByteArray := [(⟨#[97]⟩ : ByteArray), (⟨#[66, 99]⟩ : ByteArray), (⟨#[32]⟩ : ByteArray), (⟨#[9]⟩ : ByteArray), (⟨#[58]⟩ : ByteArray), (⟨#[44]⟩ : ByteArray), (⟨#[120, 45, 121]⟩ : ByteArray), (⟨#[57]⟩ : ByteArray), (⟨#[13]⟩ : ByteArray), (⟨#[0]⟩ : ByteArray), (⟨#[195, 169]⟩ : ByteArray), (⟨#[126]⟩ : ByteArray), (⟨#[75, 101, 101, 112, 45, 65, 108, 105, 118, 101]⟩ : ByteArray), (⟨#[59]⟩ : ByteArray), (⟨#[61]⟩ : ByteArray), (⟨#[34]⟩ : ByteArray)]
theorem table_small (j : Nat) (hj : j < 16) : (table.getD j ByteArray.empty).size ≤ 10 := by
  have : ∀ j : Fin 16, (table.getD j.val ByteArray.empty).size ≤ 10 := by decide
  exact this ⟨j, hj⟩
theorem u8_in {n : Int} (h : (Lit.int .u8 n).wf = true) : 0 ≤ n ∧ n ≤ 255 := by
  unfold Lit.wf at h
  simp [IntKind.min, IntKind.max, IntKind.signed, IntKind.bits] at h
  omega
theorem Pieces_at (l : List Int) (hl : ∀ x ∈ l, (Lit.int .u8 x).wf = true) :
    ∀ (d i k : Nat) (acc : ByteArray), 12 - i = d → i ≤ 12 → acc.size ≤ 10 * i → d + 1 ≤ k → ∃ t : ByteArray, t.size ≤ 120 ∧ lockagelaw05_Pieces.l0 k l table acc i = some t
  | d, i, 0, acc, hd, hi, hacc, hk => by omega
  | d, i, k + 1, acc, hd, hi, hacc, hk => by
    unfold lockagelaw05_Pieces.l0
    by_cases hlt : i < l.length
    · rw [if_pos (by omega)]
      by_cases h12 : i < 12
      · rw [if_pos (by omega), if_pos (by omega)]
        have hx : rd l (i : Int) = l[i] := by simp [rd, hlt]
        have hb := u8_in (hl l[i] (List.getElem_mem hlt))
        have ew : wrap64 ((i : Int) + 1) = ((i + 1 : Nat) : Int) := by unfold wrap64; omega
        have ex : wrap64 l[i] = l[i] := by unfold wrap64; omega
        have et : (table.length : Int) = 16 := rfl
        rw [hx, ew, ex, et, if_neg (by omega), if_pos (Int.tmod_nonneg _ hb.1), if_pos (Int.tmod_lt_of_pos _ (by omega))]
        have hs := table_small (Int.tmod l[i] 16).toNat (by have := Int.tmod_lt_of_pos l[i] (b := 16) (by omega); omega)
        have hs' : (rdOf ByteArray.empty table (Int.tmod l[i] 16)).size ≤ 10 := hs
        rw [if_pos (by omega)]
        exact Pieces_at l hl (d - 1) (i + 1) k _ (by omega) (by omega) (by rw [ByteArray.size_append]; omega) (by omega)
      · rw [if_neg (by omega)]
        exact ⟨acc, by omega, rfl⟩
    · rw [if_neg (by omega)]
      exact ⟨acc, by omega, rfl⟩
theorem Pieces_ev (l : List Int) (hl : ∀ x ∈ l, (Lit.int .u8 x).wf = true) : ∃ t : ByteArray, t.size ≤ 120 ∧ ∀ k, 13 ≤ k → lockagelaw05_Pieces.f k l = some t := by
  obtain ⟨t, ht, h⟩ := Pieces_at l hl 12 0 13 ⟨#[]⟩ rfl (by omega) (by decide) (by omega)
  exact ⟨t, ht, fun k hk => at_rounds (lockagelaw05_Pieces.mono l) hk h⟩
theorem beq_self (a : List UInt8) : (a == a) = true := by simp
theorem FieldBack_j1 (x : ByteArray) (hx : x.size ≤ 9223372036854775806) (k : Nat) (hk : 10 ≤ k) : lockagelaw05_FieldBack.j1 (k + 1) x true = some true := by
  have hl := data_length x
  unfold lockagelaw05_FieldBack.j1
  dsimp only
  rcases parse_f x hx with h | ⟨n, v, h, hn, hv⟩
  · rw [h]
    simp only [Option.bind_some]
    rw [if_neg (by decide), if_pos trivial, toList_data]
    rfl
  · have hns := Sp.name_length hn
    have hvs := Sp.val_length hv
    rw [data_length] at hns hvs
    have s2 : (⟨#[58, 32]⟩ : ByteArray).size = 2 := rfl
    rw [h]
    simp only [Option.bind_some]
    rw [if_pos trivial, if_pos (by omega), if_pos (by rw [ByteArray.size_append]; omega), parse_back hn hv]
    simp only [Option.bind_some, if_true, beq_self, Bool.and_self]
    have eL : (⟨(Sp.lower n.data.toList).toArray⟩ : ByteArray).data.toList = Sp.lower n.data.toList := rfl
    rw [name_f (by omega), value_f (by omega), lower_f (a := n) (by omega), hn, hv]
    simp only [Option.bind_some, if_true]
    rw [field_Get_ev _ _ (by simp) (by rw [mk_size, Sp.lower_length, data_length]; omega) (by simp; omega) k (by simp; omega)]
    simp only [Option.bind_some]
    rw [if_pos (by simp [getS, Sp.lower_idem])]
    have hdrop : field_Drop.f [(⟨n, v⟩ : S25), (⟨n, v⟩ : S25)] [n] = some [] := by
      unfold field_Drop.f
      rw [if_pos (by simp [smallB]; omega)]
      simp [keeps, H.sameName]
    rw [hdrop]
    simp only [Option.bind_some]
    rw [if_pos (by rfl), lower_f hx, trim_f hx]
    simp only [Option.bind_some]
    rw [lower_f (by rw [mk_size, Sp.lower_length]; omega)]
    simp only [Option.bind_some]
    rw [if_pos (by rw [toList_data, toList_data]; show Sp.lower (Sp.lower x.data.toList) = Sp.lower x.data.toList; exact Sp.lower_idem _)]
    rw [trim_f (by rw [mk_size]; have := Sp.trim_length x.data.toList; omega)]
    simp only [Option.bind_some]
    rw [toList_data, toList_data]
    show some (Sp.trim (Sp.trim x.data.toList) == Sp.trim x.data.toList) = some true
    rw [Sp.trim_idem, beq_self]
theorem FieldBack_pure : lockagelaw05_FieldBack.Pure := by
  intro a0 l1 a2 h0 _ _ hl
  obtain ⟨t, ht, hp⟩ := Pieces_ev l1 hl
  have hj : ∀ b : Bool, lockagelaw05_FieldBack.j0 (399 + 1) a0 l1 true b = some true := fun b => by
    unfold lockagelaw05_FieldBack.j0
    dsimp only
    cases b with
    | false => exact FieldBack_j1 a0 (by omega) 398 (by omega)
    | true =>
      have s3 : (⟨#[65, 98, 58]⟩ : ByteArray).size = 3 := rfl
      rw [if_pos rfl, hp 399 (by omega)]
      simp only [Option.bind_some]
      rw [if_pos (by omega)]
      exact FieldBack_j1 _ (by rw [ByteArray.size_append]; omega) 398 (by omega)
  refine ⟨399 + 1, ?_⟩
  unfold lockagelaw05_FieldBack.f
  rw [awake_at (399 + 1) (by omega)]
  simp only [Option.bind_some, if_true]
  cases a2 with
  | true => rw [if_pos rfl]; exact hj _
  | false => rw [if_neg (by decide)]; exact hj _
end Go.Proofs.YtmokfemljgbkeaaDoor.P
