/- What the reference functions of header fields come to: small letters, what a name has; plain Lean, no program. -/
import Derived.Test.YtljppmpigijgaaaDoorPE
import Derived.Lib.LazyBuf
import Derived.Test.YtljppmpigijgaaaDoorPx8
namespace Go.Proofs.YtljppmpigijgaaaDoor.P
open Go.RowKit Go.Proofs.YtljppmpigijgaaaDoorW.PrintWords Go.Proofs.YtljppmpigijgaaaDoorW.PrintLast Go.Proofs.YtljppmpigijgaaaDoorW.PrintMore

theorem wrap_next (n : Nat) (h : n < 8796093022208) : wrap64 ((n : Int) + 1) = ((n + 1 : Nat) : Int) := by unfold wrap64; omega
theorem bt_low {x : ByteArray} {i : Nat} (h : i < x.size) : bt x (i : Int) = ((x.data.toList[i]'(by rw [size_data]; exact h)).toNat : Int) := by
  unfold bt
  rw [dif_pos (by simpa using h)]
  rfl
theorem one_byte (c : UInt8) : (strOfNums [(c.toNat : Int)]) = ⟨#[c]⟩ := by
  have := Lib.Lz.strOfNums_map [c]
  simpa using this
theorem low_num (c : UInt8) (h : 65 ≤ (c.toNat : Int)) (h' : (c.toNat : Int) ≤ 90) : ((c.toNat : Int) + 32) % 256 = ((Sp.lowC c).toNat : Int) := by
  unfold Sp.lowC
  have h1 : (65 : UInt8) ≤ c := by rw [UInt8.le_iff_toNat_le]; simp; omega
  have h2 : c ≤ (90 : UInt8) := by rw [UInt8.le_iff_toNat_le]; simp; omega
  rw [if_pos (by simp [h1, h2]), UInt8.toNat_add]
  simp
theorem low_same (c : UInt8) (h : ¬ (65 ≤ (c.toNat : Int) ∧ (c.toNat : Int) ≤ 90)) : Sp.lowC c = c := by
  unfold Sp.lowC
  rw [if_neg]
  intro e
  simp only [Bool.and_eq_true, decide_eq_true_eq] at e
  obtain ⟨h1, h2⟩ := e
  rw [UInt8.le_iff_toNat_le] at h1 h2
  simp at h1 h2
  omega
theorem Low_at (x : ByteArray) (hx : x.size ≤ 9223372036854775806) :
    ∀ (d i k : Nat) (acc : ByteArray), x.size - i = d → i ≤ x.size → acc.size ≤ i → d + 1 ≤ k → lockageref05_Lower.l0 k x acc i = some ⟨(acc.data.toList ++ Sp.lower (x.data.toList.drop i)).toArray⟩
  | d, i, 0, acc, hd, hi, hacc, hk => by omega
  | d, i, k + 1, acc, hd, hi, hacc, hk => by
    unfold lockageref05_Lower.l0
    by_cases hlt : i < x.size
    · rw [if_pos (by omega), if_pos (by omega)]
      have hl : i < x.data.toList.length := by rw [size_data]; exact hlt
      have ew : wrap64 ((i : Int) + 1) = ((i + 1 : Nat) : Int) := by unfold wrap64; omega
      have ed : x.data.toList.drop i = x.data.toList[i] :: x.data.toList.drop (i + 1) := List.drop_eq_getElem_cons hl
      have go : ∀ c : UInt8, Sp.lowC (x.data.toList[i]) = c → (if acc.size + (strOfNums [(c.toNat : Int)]).size ≤ 9223372036854775807 then lockageref05_Lower.l0 k x (acc ++ strOfNums [(c.toNat : Int)]) (wrap64 ((i : Int) + 1)) else none) = some ⟨(acc.data.toList ++ Sp.lower (x.data.toList.drop i)).toArray⟩ := by
        intro c hc
        have s1 : (⟨#[c]⟩ : ByteArray).size = 1 := rfl
        rw [one_byte, if_pos (by omega), ew, Low_at x hx (d - 1) (i + 1) k _ (by omega) (by omega) (by rw [ByteArray.size_append]; omega) (by omega), ed]
        have e1 : Sp.lower (x.data.toList[i] :: x.data.toList.drop (i + 1)) = c :: Sp.lower (x.data.toList.drop (i + 1)) := by rw [← hc]; rfl
        have e2 : (acc ++ (⟨#[c]⟩ : ByteArray)).data.toList = acc.data.toList ++ [c] := by rw [ByteArray.data_append]; simp
        rw [e1, e2, List.append_assoc]
        rfl
      rw [bt_low hlt]
      simp only [Option.bind_some]
      by_cases h1 : (x.data.toList[i].toNat : Int) ≥ 65
      · rw [if_pos h1]
        by_cases h2 : (x.data.toList[i].toNat : Int) ≤ 90
        · rw [if_pos h2, low_num _ h1 h2]
          exact go _ rfl
        · rw [if_neg h2]
          exact go _ (low_same _ (by omega))
      · rw [if_neg h1]
        exact go _ (low_same _ (by omega))
    · rw [if_neg (by omega), List.drop_of_length_le (by rw [size_data]; omega)]
      have : (⟨(acc.data.toList ++ Sp.lower []).toArray⟩ : ByteArray) = acc := H.ba_ext (by simp [Sp.lower])
      rw [this]
theorem Low_ev (x : ByteArray) (hx : x.size ≤ 9223372036854775806) (k : Nat) (hk : x.size + 1 ≤ k) : lockageref05_Lower.f k x = some ⟨(Sp.lower x.data.toList).toArray⟩ := by
  unfold lockageref05_Lower.f
  have := Low_at x hx x.size 0 k ⟨#[]⟩ (by omega) (by omega) (by decide) (by omega)
  simpa using this
theorem RefGet_at (B : Nat) (hB : B ≤ 9223372036854775806) (l : List S32) (a : ByteArray) (hl : l.length < 4398046511104) (ha : a.size ≤ B) (hn : ∀ x ∈ l, x.f0.size ≤ B) :
    ∀ (d i k : Nat) (acc : List ByteArray), l.length - i = d → i ≤ l.length → acc.length ≤ i → d + B + 2 ≤ k → lockageref05_Get.l0 k l a acc i = some (acc ++ getS (l.drop i) a)
  | d, i, 0, acc, hd, hi, hacc, hk => by omega
  | d, i, k + 1, acc, hd, hi, hacc, hk => by
    unfold lockageref05_Get.l0
    by_cases hlt : i < l.length
    · rw [if_pos (by omega), if_pos (by omega)]
      have hx : rd_T32 l (i : Int) = l[i] := by simp [rd_T32, hlt]
      have hs := hn l[i] (List.getElem_mem hlt)
      have ew : wrap64 ((i : Int) + 1) = ((i + 1 : Nat) : Int) := by unfold wrap64; omega
      rw [hx, Low_ev _ (by omega) k (by omega), Low_ev a (by omega) k (by omega), ew]
      simp only [Option.bind_some]
      have ed : l.drop i = l[i] :: l.drop (i + 1) := List.drop_eq_getElem_cons hlt
      have eg : getS (l.drop i) a = (if (Sp.lower l[i].f0.data.toList == Sp.lower a.data.toList) = true then [l[i].f1] else []) ++ getS (l.drop (i + 1)) a := by
        rw [ed]
        unfold getS
        rw [List.filter_cons]
        split <;> simp
      rw [eg]
      by_cases c : Sp.lower l[i].f0.data.toList = Sp.lower a.data.toList
      · rw [if_pos (by rw [toList_data, toList_data]; simpa using c), if_pos (by omega), if_pos (by simpa using c)]
        rw [RefGet_at B hB l a hl ha hn (d - 1) (i + 1) k _ (by omega) (by omega) (by simp; omega) (by omega), List.append_assoc]
      · rw [if_neg (by rw [toList_data, toList_data]; simpa using c), if_neg (by simpa using c)]
        rw [RefGet_at B hB l a hl ha hn (d - 1) (i + 1) k _ (by omega) (by omega) (by omega) (by omega), List.nil_append]
    · rw [if_neg (by omega), List.drop_of_length_le (by omega)]
      simp [getS]
theorem RefGet_ev (B : Nat) (hB : B ≤ 9223372036854775806) (l : List S32) (a : ByteArray) (hl : l.length < 4398046511104) (ha : a.size ≤ B) (hn : ∀ x ∈ l, x.f0.size ≤ B) (k : Nat) (hk : l.length + B + 2 ≤ k) :
    lockageref05_Get.f k l a = some (getS l a) := by
  unfold lockageref05_Get.f
  have := RefGet_at B hB l a hl ha hn l.length 0 k [] (by omega) (by omega) (by simp) hk
  simpa using this
end Go.Proofs.YtljppmpigijgaaaDoor.P
