/- What the printed functions of header fields come to: reading, getting, dropping; plain Lean, no program. -/
import Derived.Test.YtmokfemljgbkeaaDoorPA
import Derived.Test.YtmokfemljgbkeaaDoorPx2
namespace Go.Proofs.YtmokfemljgbkeaaDoor.P
open Go.RowKit Go.Proofs.YtmokfemljgbkeaaDoorW.PrintWords Go.Proofs.YtmokfemljgbkeaaDoorW.PrintLast Go.Proofs.YtmokfemljgbkeaaDoorW.PrintMore

theorem name_f {a : ByteArray} (h : a.size ≤ 9223372036854775806) : field_Name.f a = some (Sp.nameB a.data.toList) := by unfold field_Name.f; rw [if_pos h]
theorem value_f {a : ByteArray} (h : a.size ≤ 9223372036854775806) : field_Value.f a = some (Sp.valB a.data.toList) := by unfold field_Value.f; rw [if_pos h]
theorem trim_f {a : ByteArray} (h : a.size ≤ 9223372036854775806) : field_Trim.f a = some ⟨(Sp.trim a.data.toList).toArray⟩ := by unfold field_Trim.f; rw [if_pos h]
theorem lower_f {a : ByteArray} (h : a.size ≤ 9223372036854775806) : field_Lower.f a = some ⟨(Sp.lower a.data.toList).toArray⟩ := by unfold field_Lower.f; rw [if_pos h]
theorem mk_size (l : List UInt8) : (⟨l.toArray⟩ : ByteArray).size = l.length := by show l.toArray.size = _; rw [List.size_toArray]
theorem toList_data (a : ByteArray) : a.toList = a.data.toList := ByteArray.toList_eq a
/-- A reading that did not fail: the name and the value, and that they are good ones. -/
theorem parse_f (a : ByteArray) (h : a.size ≤ 9223372036854775806) :
    field_Parse.f a = some (⟨#[]⟩, ⟨#[]⟩, 21) ∨ ∃ n v : ByteArray, field_Parse.f a = some (n, v, 0) ∧ Sp.nameB n.data.toList = true ∧ Sp.valB v.data.toList = true := by
  have hl := data_length a
  have h1 := Sp.cutL_length 58 a.data.toList
  have h2 := Sp.cutR_length 58 a.data.toList
  have h3 := Sp.trim_length (Sp.cutR 58 a.data.toList)
  unfold field_Parse.f strings_Cut.f
  rw [if_pos h]
  simp only [Option.bind_some]
  rw [trim_f (by rw [mk_size]; omega), name_f (by rw [mk_size]; omega)]
  simp only [Option.bind_some]
  rw [value_f (by rw [mk_size]; omega)]
  simp only [Option.bind_some]
  by_cases c1 : Sp.cutIs 58 a.data.toList = true
  · rw [if_pos c1]
    by_cases c2 : Sp.nameB (Sp.cutL 58 a.data.toList) = true
    · rw [if_pos c2]
      by_cases c3 : Sp.valB (Sp.trim (Sp.cutR 58 a.data.toList)) = true
      · rw [if_pos c3]
        exact .inr ⟨_, _, rfl, c2, c3⟩
      · rw [if_neg c3]
        exact .inl rfl
    · rw [if_neg c2]
      exact .inl rfl
  · rw [if_neg c1]
    exact .inl rfl
/-- A field that is written out reads back. -/
theorem parse_back {n v : ByteArray} (hn : Sp.nameB n.data.toList = true) (hv : Sp.valB v.data.toList = true) :
    field_Parse.f ((n ++ (⟨#[58, 32]⟩ : ByteArray)) ++ v) = some (n, v, 0) := by
  have hns := Sp.name_length hn
  have hvs := Sp.val_length hv
  rw [data_length] at hns hvs
  have e : ((n ++ (⟨#[58, 32]⟩ : ByteArray)) ++ v).data.toList = n.data.toList ++ (58 : UInt8) :: (32 :: v.data.toList) := by
    rw [ByteArray.data_append, ByteArray.data_append]
    simp
  have hs : ((n ++ (⟨#[58, 32]⟩ : ByteArray)) ++ v).size ≤ 9223372036854775806 := by
    rw [← data_length, e, List.length_append, List.length_cons, List.length_cons, data_length, data_length]
    omega
  have h58 := Sp.name_no_colon hn
  unfold field_Parse.f strings_Cut.f
  rw [if_pos hs, e, ]
  simp only [Option.bind_some]
  rw [Sp.cutL_at h58, Sp.cutR_at h58, Sp.cutIs_at]
  have e1 : Sp.trim ((32 : UInt8) :: v.data.toList) = v.data.toList := by
    rw [Sp.trim_blank (by rfl), Sp.val_trim hv]
  have e2 : (⟨n.data.toList.toArray⟩ : ByteArray) = n := H.ba_ext (by simp)
  have e3 : (⟨v.data.toList.toArray⟩ : ByteArray) = v := H.ba_ext (by simp)
  rw [trim_f (by rw [mk_size, List.length_cons, data_length]; omega)]
  simp only [Option.bind_some]
  rw [e1, e2, e3, name_f (by omega), if_pos trivial]
  simp only [Option.bind_some]
  rw [hn, if_pos rfl, value_f (by omega)]
  simp only [Option.bind_some]
  rw [hv, if_pos rfl]

/-- The texts under a name, in their order. -/
def getS (l : List S25) (a : ByteArray) : List ByteArray := (l.filter fun x => Sp.lower x.f0.data.toList == Sp.lower a.data.toList).map (·.f1)
theorem getS_length (l : List S25) (a : ByteArray) : (getS l a).length ≤ l.length := by
  unfold getS
  rw [List.length_map]
  exact List.length_filter_le _ _
theorem field_Get_at (l : List S25) (a : ByteArray) (hl : l.length < 4398046511104) (ha : a.size ≤ 9223372036854775806) (hn : ∀ x ∈ l, x.f0.size ≤ 9223372036854775806) :
    ∀ (d i k : Nat) (acc : List ByteArray), l.length - i = d → i ≤ l.length → acc.length ≤ i → d + 1 ≤ k → field_Get.l0 k a acc l (l.length : Int) i = some (acc ++ getS (l.drop i) a)
  | d, i, 0, acc, hd, hi, hacc, hk => by omega
  | d, i, k + 1, acc, hd, hi, hacc, hk => by
    unfold field_Get.l0
    by_cases hlt : i < l.length
    · rw [if_pos (by omega), if_pos (by omega), if_pos (by omega)]
      have hx : rd_T25 l (i : Int) = l[i] := by simp [rd_T25, hlt]
      have hs := hn l[i] (List.getElem_mem hlt)
      have ew : wrap64 ((i : Int) + 1) = ((i + 1 : Nat) : Int) := by unfold wrap64; omega
      rw [hx, lower_f hs, lower_f ha, ew]
      simp only [Option.bind_some]
      have ed : l.drop i = l[i] :: l.drop (i + 1) := List.drop_eq_getElem_cons hlt
      have eg : getS (l.drop i) a = (if (Sp.lower l[i].f0.data.toList == Sp.lower a.data.toList) = true then [l[i].f1] else []) ++ getS (l.drop (i + 1)) a := by
        rw [ed]
        unfold getS
        rw [List.filter_cons]
        split <;> simp
      rw [eg]
      by_cases c : Sp.lower l[i].f0.data.toList = Sp.lower a.data.toList
      · rw [if_pos (by rw [toList_data, toList_data]; simpa using c), if_pos (by omega), if_pos (by simpa using c)]
        rw [field_Get_at l a hl ha hn (d - 1) (i + 1) k _ (by omega) (by omega) (by simp; omega) (by omega), List.append_assoc]
      · rw [if_neg (by rw [toList_data, toList_data]; simpa using c), if_neg (by simpa using c)]
        rw [field_Get_at l a hl ha hn (d - 1) (i + 1) k _ (by omega) (by omega) (by omega) (by omega), List.nil_append]
    · rw [if_neg (by omega), List.drop_of_length_le (by omega)]
      simp [getS]
theorem field_Get_ev (l : List S25) (a : ByteArray) (hl : l.length < 4398046511104) (ha : a.size ≤ 9223372036854775806) (hn : ∀ x ∈ l, x.f0.size ≤ 9223372036854775806) (k : Nat) (hk : l.length + 1 ≤ k) :
    field_Get.f k l a = some (getS l a) := by
  unfold field_Get.f
  have := field_Get_at l a hl ha hn l.length 0 k [] (by omega) (by omega) (by simp) hk
  simpa using this
end Go.Proofs.YtmokfemljgbkeaaDoor.P
