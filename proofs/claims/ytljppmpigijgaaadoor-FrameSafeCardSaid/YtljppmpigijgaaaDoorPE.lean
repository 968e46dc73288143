/- What the printed functions of header fields come to: names, values, what a name has; plain Lean, no program. -/
import Derived.Test.YtljppmpigijgaaaDoorPA
import Derived.Test.YtljppmpigijgaaaDoorHD
import Derived.Test.YtljppmpigijgaaaDoorHN
import Derived.Test.YtljppmpigijgaaaDoorPx3
namespace Go.Proofs.YtljppmpigijgaaaDoor.P
open Go.RowKit Go.Proofs.YtljppmpigijgaaaDoorW.PrintWords Go.Proofs.YtljppmpigijgaaaDoorW.PrintLast Go.Proofs.YtljppmpigijgaaaDoorW.PrintMore

theorem size_data (s : ByteArray) : s.data.toList.length = s.size := by rw [Array.length_toList]; rfl
theorem name_f {a : ByteArray} (h : a.size ≤ 9223372036854775806) : field_Name.f a = some (Sp.nameB a.data.toList) := by unfold field_Name.f; rw [if_pos h]
theorem value_f {a : ByteArray} (h : a.size ≤ 9223372036854775806) : field_Value.f a = some (Sp.valB a.data.toList) := by unfold field_Value.f; rw [if_pos h]
theorem trim_f {a : ByteArray} (h : a.size ≤ 9223372036854775806) : field_Trim.f a = some ⟨(Sp.trim a.data.toList).toArray⟩ := by unfold field_Trim.f; rw [if_pos h]
theorem lower_f {a : ByteArray} (h : a.size ≤ 9223372036854775806) : field_Lower.f a = some ⟨(Sp.lower a.data.toList).toArray⟩ := by unfold field_Lower.f; rw [if_pos h]
theorem mk_size (l : List UInt8) : (⟨l.toArray⟩ : ByteArray).size = l.length := by show l.toArray.size = _; rw [List.size_toArray]
theorem toList_data (a : ByteArray) : a.toList = a.data.toList := ByteArray.toList_eq a
/-- The texts under a name, in their order. -/
def getS (l : List S32) (a : ByteArray) : List ByteArray := (l.filter fun x => Sp.lower x.f0.data.toList == Sp.lower a.data.toList).map (·.f1)
theorem getS_length (l : List S32) (a : ByteArray) : (getS l a).length ≤ l.length := by
  unfold getS
  rw [List.length_map]
  exact List.length_filter_le _ _
theorem field_Get_at (l : List S32) (a : ByteArray) (hl : l.length < 4398046511104) (ha : a.size ≤ 9223372036854775806) (hn : ∀ x ∈ l, x.f0.size ≤ 9223372036854775806) :
    ∀ (d i k : Nat) (acc : List ByteArray), l.length - i = d → i ≤ l.length → acc.length ≤ i → d + 1 ≤ k → field_Get.l0 k a acc l (l.length : Int) i = some (acc ++ getS (l.drop i) a)
  | d, i, 0, acc, hd, hi, hacc, hk => by omega
  | d, i, k + 1, acc, hd, hi, hacc, hk => by
    unfold field_Get.l0
    by_cases hlt : i < l.length
    · rw [if_pos (by omega), if_pos (by omega), if_pos (by omega)]
      have hx : rd_T32 l (i : Int) = l[i] := by simp [rd_T32, hlt]
      have hs := hn l[i] (List.getElem_mem hlt)
      have ew : wrap64 ((i : Int) + 1) = ((i + 1 : Nat) : Int) := by unfold wrap64; omega
      rw [hx, lower_f hs, lower_f ha, ew]
      simp only [Option.bind_some]
      have ed : l.drop i = l[i] :: l.drop (i + 1) := List.drop_eq_getElem_cons hlt
      have eg : getS (l.drop i) a = (if (Sp.lower l[i].f0.data.toList == Sp.lower a.data.toList) = true then [l[i].f1] else []) ++ getS (l.drop (i + 1)) a := by
        rw [ed]
        unfold getS
        rw [List.filter_cons]
        split <;> simp
      rw [eg]
      by_cases c : Sp.lower l[i].f0.data.toList = Sp.lower a.data.toList
      · rw [if_pos (by rw [toList_data, toList_data]; simpa using c), if_pos (by omega), if_pos (by simpa using c)]
        rw [field_Get_at l a hl ha hn (d - 1) (i + 1) k _ (by omega) (by omega) (by simp; omega) (by omega), List.append_assoc]
      · rw [if_neg (by rw [toList_data, toList_data]; simpa using c), if_neg (by simpa using c)]
        rw [field_Get_at l a hl ha hn (d - 1) (i + 1) k _ (by omega) (by omega) (by omega) (by omega), List.nil_append]
    · rw [if_neg (by omega), List.drop_of_length_le (by omega)]
      simp [getS]
theorem field_Get_ev (l : List S32) (a : ByteArray) (hl : l.length < 4398046511104) (ha : a.size ≤ 9223372036854775806) (hn : ∀ x ∈ l, x.f0.size ≤ 9223372036854775806) (k : Nat) (hk : l.length + 1 ≤ k) :
    field_Get.f k l a = some (getS l a) := by
  unfold field_Get.f
  have := field_Get_at l a hl ha hn l.length 0 k [] (by omega) (by omega) (by simp) hk
  simpa using this
end Go.Proofs.YtljppmpigijgaaaDoor.P
