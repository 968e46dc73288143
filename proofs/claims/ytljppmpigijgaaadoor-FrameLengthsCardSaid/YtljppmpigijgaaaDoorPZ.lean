/- The law FrameFields: its walk by hand, and the plain law. -/
import Derived.Test.YtljppmpigijgaaaDoorPA
import Derived.Test.YtljppmpigijgaaaDoorHZ
import Derived.Test.YtljppmpigijgaaaDoorHN
import Derived.Test.YtljppmpigijgaaaDoorPx2
import Derived.Lib.LazyBuf
import Derived.Test.YtljppmpigijgaaaDoorPx8
import Derived.Test.YtljppmpigijgaaaDoorHI
import Derived.Test.YtljppmpigijgaaaDoorPx5
import Derived.Test.YtljppmpigijgaaaDoorPx4
import Derived.Test.YtljppmpigijgaaaDoorPx11
import Derived.Test.YtljppmpigijgaaaDoorPx3
import Derived.Test.YtljppmpigijgaaaDoorPx6
import Derived.Test.YtljppmpigijgaaaDoorHG
import Derived.Test.YtljppmpigijgaaaDoorPx7
import Derived.Test.YtljppmpigijgaaaDoorPx9
import Derived.Test.YtljppmpigijgaaaDoorPx10
import Derived.Test.YtljppmpigijgaaaDoorPx12
import Derived.Deep.RegionWith
import Derived.Deep.RegionHeld3
import Derived.Deep.QuietTactic
import Derived.BigQuiet
import Derived.OwnWalk
namespace Go.Proofs.YtljppmpigijgaaaDoor.P
open Go.RowKit Go.Proofs.YtljppmpigijgaaaDoorW.PrintWords Go.Proofs.YtljppmpigijgaaaDoorW.PrintLast Go.Proofs.YtljppmpigijgaaaDoorW.PrintMore

theorem size_data (s : ByteArray) : s.data.toList.length = s.size := by rw [Array.length_toList]; rfl
theorem name_f {a : ByteArray} (h : a.size ≤ 9223372036854775806) : field_Name.f a = some (Sp.nameB a.data.toList) := by unfold field_Name.f; rw [if_pos h]
theorem value_f {a : ByteArray} (h : a.size ≤ 9223372036854775806) : field_Value.f a = some (Sp.valB a.data.toList) := by unfold field_Value.f; rw [if_pos h]
theorem trim_f {a : ByteArray} (h : a.size ≤ 9223372036854775806) : field_Trim.f a = some ⟨(Sp.trim a.data.toList).toArray⟩ := by unfold field_Trim.f; rw [if_pos h]
theorem lower_f {a : ByteArray} (h : a.size ≤ 9223372036854775806) : field_Lower.f a = some ⟨(Sp.lower a.data.toList).toArray⟩ := by unfold field_Lower.f; rw [if_pos h]
theorem mk_size (l : List UInt8) : (⟨l.toArray⟩ : ByteArray).size = l.length := by show l.toArray.size = _; rw [List.size_toArray]
theorem toList_data (a : ByteArray) : a.toList = a.data.toList := ByteArray.toList_eq a
/-- The texts under a name, in their order. -/
def getS (l : List S32) (a : ByteArray) : List ByteArray := (l.filter fun x => Sp.lower x.f0.data.toList == Sp.lower a.data.toList).map (·.f1)
theorem getS_length (l : List S32) (a : ByteArray) : (getS l a).length ≤ l.length := by
  unfold getS
  rw [List.length_map]
  exact List.length_filter_le _ _
theorem field_Get_at (l : List S32) (a : ByteArray) (hl : l.length < 4398046511104) (ha : a.size ≤ 9223372036854775806) (hn : ∀ x ∈ l, x.f0.size ≤ 9223372036854775806) :
    ∀ (d i k : Nat) (acc : List ByteArray), l.length - i = d → i ≤ l.length → acc.length ≤ i → d + 1 ≤ k → field_Get.l0 k a acc l (l.length : Int) i = some (acc ++ getS (l.drop i) a)
  | d, i, 0, acc, hd, hi, hacc, hk => by omega
  | d, i, k + 1, acc, hd, hi, hacc, hk => by
    unfold field_Get.l0
    by_cases hlt : i < l.length
    · rw [if_pos (by omega), if_pos (by omega), if_pos (by omega)]
      have hx : rd_T32 l (i : Int) = l[i] := by simp [rd_T32, hlt]
      have hs := hn l[i] (List.getElem_mem hlt)
      have ew : wrap64 ((i : Int) + 1) = ((i + 1 : Nat) : Int) := by unfold wrap64; omega
      rw [hx, lower_f hs, lower_f ha, ew]
      simp only [Option.bind_some]
      have ed : l.drop i = l[i] :: l.drop (i + 1) := List.drop_eq_getElem_cons hlt
      have eg : getS (l.drop i) a = (if (Sp.lower l[i].f0.data.toList == Sp.lower a.data.toList) = true then [l[i].f1] else []) ++ getS (l.drop (i + 1)) a := by
        rw [ed]
        unfold getS
        rw [List.filter_cons]
        split <;> simp
      rw [eg]
      by_cases c : Sp.lower l[i].f0.data.toList = Sp.lower a.data.toList
      · rw [if_pos (by rw [toList_data, toList_data]; simpa using c), if_pos (by omega), if_pos (by simpa using c)]
        rw [field_Get_at l a hl ha hn (d - 1) (i + 1) k _ (by omega) (by omega) (by simp; omega) (by omega), List.append_assoc]
      · rw [if_neg (by rw [toList_data, toList_data]; simpa using c), if_neg (by simpa using c)]
        rw [field_Get_at l a hl ha hn (d - 1) (i + 1) k _ (by omega) (by omega) (by omega) (by omega), List.nil_append]
    · rw [if_neg (by omega), List.drop_of_length_le (by omega)]
      simp [getS]
theorem field_Get_ev (l : List S32) (a : ByteArray) (hl : l.length < 4398046511104) (ha : a.size ≤ 9223372036854775806) (hn : ∀ x ∈ l, x.f0.size ≤ 9223372036854775806) (k : Nat) (hk : l.length + 1 ≤ k) :
    field_Get.f k l a = some (getS l a) := by
  unfold field_Get.f
  have := field_Get_at l a hl ha hn l.length 0 k [] (by omega) (by omega) (by simp) hk
  simpa using this
end Go.Proofs.YtljppmpigijgaaaDoor.P
namespace Go.Proofs.YtljppmpigijgaaaDoor.P
open Go.RowKit Go.Proofs.YtljppmpigijgaaaDoorW.PrintWords Go.Proofs.YtljppmpigijgaaaDoorW.PrintLast Go.Proofs.YtljppmpigijgaaaDoorW.PrintMore

theorem wrap_next (n : Nat) (h : n < 8796093022208) : wrap64 ((n : Int) + 1) = ((n + 1 : Nat) : Int) := by unfold wrap64; omega
theorem bt_low {x : ByteArray} {i : Nat} (h : i < x.size) : bt x (i : Int) = ((x.data.toList[i]'(by rw [size_data]; exact h)).toNat : Int) := by
  unfold bt
  rw [dif_pos (by simpa using h)]
  rfl
theorem one_byte (c : UInt8) : (strOfNums [(c.toNat : Int)]) = ⟨#[c]⟩ := by
  have := Lib.Lz.strOfNums_map [c]
  simpa using this
theorem low_num (c : UInt8) (h : 65 ≤ (c.toNat : Int)) (h' : (c.toNat : Int) ≤ 90) : ((c.toNat : Int) + 32) % 256 = ((Sp.lowC c).toNat : Int) := by
  unfold Sp.lowC
  have h1 : (65 : UInt8) ≤ c := by rw [UInt8.le_iff_toNat_le]; simp; omega
  have h2 : c ≤ (90 : UInt8) := by rw [UInt8.le_iff_toNat_le]; simp; omega
  rw [if_pos (by simp [h1, h2]), UInt8.toNat_add]
  simp
theorem low_same (c : UInt8) (h : ¬ (65 ≤ (c.toNat : Int) ∧ (c.toNat : Int) ≤ 90)) : Sp.lowC c = c := by
  unfold Sp.lowC
  rw [if_neg]
  intro e
  simp only [Bool.and_eq_true, decide_eq_true_eq] at e
  obtain ⟨h1, h2⟩ := e
  rw [UInt8.le_iff_toNat_le] at h1 h2
  simp at h1 h2
  omega
theorem Low_at (x : ByteArray) (hx : x.size ≤ 9223372036854775806) :
    ∀ (d i k : Nat) (acc : ByteArray), x.size - i = d → i ≤ x.size → acc.size ≤ i → d + 1 ≤ k → lockageref05_Lower.l0 k x acc i = some ⟨(acc.data.toList ++ Sp.lower (x.data.toList.drop i)).toArray⟩
  | d, i, 0, acc, hd, hi, hacc, hk => by omega
  | d, i, k + 1, acc, hd, hi, hacc, hk => by
    unfold lockageref05_Lower.l0
    by_cases hlt : i < x.size
    · rw [if_pos (by omega), if_pos (by omega)]
      have hl : i < x.data.toList.length := by rw [size_data]; exact hlt
      have ew : wrap64 ((i : Int) + 1) = ((i + 1 : Nat) : Int) := by unfold wrap64; omega
      have ed : x.data.toList.drop i = x.data.toList[i] :: x.data.toList.drop (i + 1) := List.drop_eq_getElem_cons hl
      have go : ∀ c : UInt8, Sp.lowC (x.data.toList[i]) = c → (if acc.size + (strOfNums [(c.toNat : Int)]).size ≤ 9223372036854775807 then lockageref05_Lower.l0 k x (acc ++ strOfNums [(c.toNat : Int)]) (wrap64 ((i : Int) + 1)) else none) = some ⟨(acc.data.toList ++ Sp.lower (x.data.toList.drop i)).toArray⟩ := by
        intro c hc
        have s1 : (⟨#[c]⟩ : ByteArray).size = 1 := rfl
        rw [one_byte, if_pos (by omega), ew, Low_at x hx (d - 1) (i + 1) k _ (by omega) (by omega) (by rw [ByteArray.size_append]; omega) (by omega), ed]
        have e1 : Sp.lower (x.data.toList[i] :: x.data.toList.drop (i + 1)) = c :: Sp.lower (x.data.toList.drop (i + 1)) := by rw [← hc]; rfl
        have e2 : (acc ++ (⟨#[c]⟩ : ByteArray)).data.toList = acc.data.toList ++ [c] := by rw [ByteArray.data_append]; simp
        rw [e1, e2, List.append_assoc]
        rfl
      rw [bt_low hlt]
      simp only [Option.bind_some]
      by_cases h1 : (x.data.toList[i].toNat : Int) ≥ 65
      · rw [if_pos h1]
        by_cases h2 : (x.data.toList[i].toNat : Int) ≤ 90
        · rw [if_pos h2, low_num _ h1 h2]
          exact go _ rfl
        · rw [if_neg h2]
          exact go _ (low_same _ (by omega))
      · rw [if_neg h1]
        exact go _ (low_same _ (by omega))
    · rw [if_neg (by omega), List.drop_of_length_le (by rw [size_data]; omega)]
      have : (⟨(acc.data.toList ++ Sp.lower []).toArray⟩ : ByteArray) = acc := H.ba_ext (by simp [Sp.lower])
      rw [this]
theorem Low_ev (x : ByteArray) (hx : x.size ≤ 9223372036854775806) (k : Nat) (hk : x.size + 1 ≤ k) : lockageref05_Lower.f k x = some ⟨(Sp.lower x.data.toList).toArray⟩ := by
  unfold lockageref05_Lower.f
  have := Low_at x hx x.size 0 k ⟨#[]⟩ (by omega) (by omega) (by decide) (by omega)
  simpa using this
theorem RefGet_at (B : Nat) (hB : B ≤ 9223372036854775806) (l : List S32) (a : ByteArray) (hl : l.length < 4398046511104) (ha : a.size ≤ B) (hn : ∀ x ∈ l, x.f0.size ≤ B) :
    ∀ (d i k : Nat) (acc : List ByteArray), l.length - i = d → i ≤ l.length → acc.length ≤ i → d + B + 2 ≤ k → lockageref05_Get.l0 k l a acc i = some (acc ++ getS (l.drop i) a)
  | d, i, 0, acc, hd, hi, hacc, hk => by omega
  | d, i, k + 1, acc, hd, hi, hacc, hk => by
    unfold lockageref05_Get.l0
    by_cases hlt : i < l.length
    · rw [if_pos (by omega), if_pos (by omega)]
      have hx : rd_T32 l (i : Int) = l[i] := by simp [rd_T32, hlt]
      have hs := hn l[i] (List.getElem_mem hlt)
      have ew : wrap64 ((i : Int) + 1) = ((i + 1 : Nat) : Int) := by unfold wrap64; omega
      rw [hx, Low_ev _ (by omega) k (by omega), Low_ev a (by omega) k (by omega), ew]
      simp only [Option.bind_some]
      have ed : l.drop i = l[i] :: l.drop (i + 1) := List.drop_eq_getElem_cons hlt
      have eg : getS (l.drop i) a = (if (Sp.lower l[i].f0.data.toList == Sp.lower a.data.toList) = true then [l[i].f1] else []) ++ getS (l.drop (i + 1)) a := by
        rw [ed]
        unfold getS
        rw [List.filter_cons]
        split <;> simp
      rw [eg]
      by_cases c : Sp.lower l[i].f0.data.toList = Sp.lower a.data.toList
      · rw [if_pos (by rw [toList_data, toList_data]; simpa using c), if_pos (by omega), if_pos (by simpa using c)]
        rw [RefGet_at B hB l a hl ha hn (d - 1) (i + 1) k _ (by omega) (by omega) (by simp; omega) (by omega), List.append_assoc]
      · rw [if_neg (by rw [toList_data, toList_data]; simpa using c), if_neg (by simpa using c)]
        rw [RefGet_at B hB l a hl ha hn (d - 1) (i + 1) k _ (by omega) (by omega) (by omega) (by omega), List.nil_append]
    · rw [if_neg (by omega), List.drop_of_length_le (by omega)]
      simp [getS]
theorem RefGet_ev (B : Nat) (hB : B ≤ 9223372036854775806) (l : List S32) (a : ByteArray) (hl : l.length < 4398046511104) (ha : a.size ≤ B) (hn : ∀ x ∈ l, x.f0.size ≤ B) (k : Nat) (hk : l.length + B + 2 ≤ k) :
    lockageref05_Get.f k l a = some (getS l a) := by
  unfold lockageref05_Get.f
  have := RefGet_at B hB l a hl ha hn l.length 0 k [] (by omega) (by omega) (by simp) hk
  simpa using this
end Go.Proofs.YtljppmpigijgaaaDoor.P
namespace Go.Proofs.YtljppmpigijgaaaDoor.P
open Go.RowKit Go.Proofs.YtljppmpigijgaaaDoorW.PrintWords Go.Proofs.YtljppmpigijgaaaDoorW.PrintLast Go.Proofs.YtljppmpigijgaaaDoorW.PrintMore
def hasT (l : List ByteArray) (c : List UInt8) : Bool := l.any fun x => c == x.toList
def cClose : List UInt8 := [99, 108, 111, 115, 101]
def cKeep : List UInt8 := [107, 101, 101, 112, 45, 97, 108, 105, 118, 101]
theorem hasT_drop (l : List ByteArray) (c : List UInt8) (j : Nat) (h : j < l.length) : hasT (l.drop j) c = (c == l[j].toList || hasT (l.drop (j + 1)) c) := by
  unfold hasT
  rw [List.drop_eq_getElem_cons h, List.any_cons]
theorem hasT_append (a b : List ByteArray) (c : List UInt8) : hasT (a ++ b) c = (hasT a c || hasT b c) := by unfold hasT; rw [List.any_append]
theorem rdOf_at {l : List ByteArray} {j : Nat} (h : j < l.length) : rdOf ByteArray.empty l (j : Int) = l[j] := by simp [rdOf, h]
theorem wrap_up (n : Nat) (h : n < 8796093022208) : wrap64 ((n : Int) + 1) = ((n + 1 : Nat) : Int) := by unfold wrap64; omega
theorem Index_at (l : List ByteArray) (a : ByteArray) (hl : l.length < 8796093022208) (d : Nat) :
    ∀ (i k : Nat), l.length - i = d → d + 1 ≤ k → ∃ r : Int, slices_Index_string_string.l0 k l a (l.length : Int) i = some r ∧ decide (r ≥ 0) = hasT (l.drop i) a.toList := by
  induction d with
  | zero =>
    intro i k hd hk
    obtain ⟨k, rfl⟩ : ∃ j, k = j + 1 := ⟨k - 1, by omega⟩
    unfold slices_Index_string_string.l0
    rw [if_neg (by omega), List.drop_of_length_le (by omega)]
    exact ⟨-1, rfl, rfl⟩
  | succ d ih =>
    intro i k hd hk
    obtain ⟨k, rfl⟩ : ∃ j, k = j + 1 := ⟨k - 1, by omega⟩
    have hi : i < l.length := by omega
    unfold slices_Index_string_string.l0
    rw [if_pos (by omega), if_pos (by omega), if_pos (by omega), rdOf_at hi, hasT_drop _ _ _ hi]
    by_cases c : a.toList = l[i].toList
    · rw [if_pos c]
      refine ⟨_, rfl, ?_⟩
      rw [c]
      simp
    · rw [if_neg c, wrap_up i (by omega)]
      obtain ⟨r, h1, h2⟩ := ih (i + 1) k (by omega) (by omega)
      refine ⟨r, h1, ?_⟩
      rw [h2]
      simp [c]
theorem Contains_ev (l : List ByteArray) (a : ByteArray) (hl : l.length < 8796093022208) (k : Nat) (hk : l.length + 1 ≤ k) : slices_Contains_string_string.f k l a = some (hasT l a.toList) := by
  obtain ⟨r, h1, h2⟩ := Index_at l a hl l.length 0 k (by omega) hk
  unfold slices_Contains_string_string.f slices_Index_string_string.f
  rw [show slices_Index_string_string.l0 k l a (l.length : Int) 0 = some r from h1]
  simp only [Option.bind_some]
  rw [h2]
  rfl
def allI (V : List ByteArray) : List ByteArray := V.flatMap itemsB
theorem allI_drop (V : List ByteArray) (i : Nat) (h : i < V.length) : allI (V.drop i) = itemsB V[i] ++ allI (V.drop (i + 1)) := by
  unfold allI
  rw [List.drop_eq_getElem_cons h, List.flatMap_cons]
def stayS (V : List ByteArray) (mi : Int) : Bool := !hasT (allI V) cClose && (mi == 1 || hasT (allI V) cKeep)
theorem Stays_l0 (V : List ByteArray) (hV : ∀ v ∈ V, v.size ≤ 1000) (hl : V.length ≤ 100) (a b : ByteArray) (c : Int) (s : ByteArray) (mi : Int) (fs : List S32) (d : Nat) :
    ∀ (i k : Nat) (acc : List ByteArray), V.length - i = d → i ≤ V.length → acc.length ≤ 1001 * i → d + 110000 ≤ k →
      frame_Stays.l0 k acc V (V.length : Int) i a b c s mi fs = some (!hasT (acc ++ allI (V.drop i)) cClose && (mi == 1 || hasT (acc ++ allI (V.drop i)) cKeep)) := by
  induction d with
  | zero =>
    intro i k acc hd hi ha hk
    obtain ⟨k, rfl⟩ : ∃ j, k = j + 1 := ⟨k - 1, by omega⟩
    have e : allI (V.drop i) = [] := by rw [List.drop_of_length_le (by omega)]; rfl
    unfold frame_Stays.l0
    rw [if_neg (by omega), e, List.append_nil, Contains_ev acc _ (by omega) k (by omega), Contains_ev acc _ (by omega) k (by omega)]
    simp only [Option.bind_some]
    have e1 : (⟨#[99, 108, 111, 115, 101]⟩ : ByteArray).toList = cClose := by rw [toList_data]; rfl
    have e2 : (⟨#[107, 101, 101, 112, 45, 97, 108, 105, 118, 101]⟩ : ByteArray).toList = cKeep := by rw [toList_data]; rfl
    rw [e1, e2]
    cases hasT acc cClose with
    | true => rw [if_pos rfl]; rfl
    | false =>
      rw [if_neg (by decide)]
      by_cases h : mi = 1
      · rw [if_pos h]; simp [h]
      · rw [if_neg h]; simp [h]
  | succ d ih =>
    intro i k acc hd hi ha hk
    obtain ⟨k, rfl⟩ : ∃ j, k = j + 1 := ⟨k - 1, by omega⟩
    have hlt : i < V.length := by omega
    have hs := hV V[i] (List.getElem_mem hlt)
    have hle := items_le V[i]
    unfold frame_Stays.l0
    rw [if_pos (by omega), if_pos (by omega), if_pos (by omega), rdOf_at hlt]
    unfold field_Items.f
    rw [if_pos (by omega)]
    simp only [Option.bind_some]
    rw [if_pos (by omega), wrap_up i (by omega), ih (i + 1) k _ (by omega) (by omega) (by rw [List.length_append]; omega) (by omega), allI_drop V i hlt, List.append_assoc]
theorem Stays_ev (V : List ByteArray) (hV : ∀ v ∈ V, v.size ≤ 1000) (hl : V.length ≤ 100) (a b : ByteArray) (c : Int) (s : ByteArray) (mi : Int) (fs : List S32) (k : Nat) (hk : 120000 ≤ k)
    (hG : field_Get.f k fs (⟨#[67, 111, 110, 110, 101, 99, 116, 105, 111, 110]⟩ : ByteArray) = some V) : frame_Stays.f k a b c s mi fs = some (stayS V mi) := by
  unfold frame_Stays.f
  rw [hG]
  simp only [Option.bind_some]
  have := Stays_l0 V hV hl a b c s mi fs V.length 0 k [] (by omega) (by omega) (by simp) (by omega)
  simpa [stayS] using this
/-- What the reference reads of a text are its items. -/
def ItemsOk (V : List ByteArray) (B : Nat) : Prop := ∀ v ∈ V, v.size ≤ 1000 ∧ ∀ k, B ≤ k → lockageref05_Items.f k v = some (itemsB v)
theorem RStays_l3 (V its : List ByteArray) (hits : its.length ≤ 2000) (i : Nat) (hi : i ≤ 1000) (R : Bool) (K : Nat) (B : Bool) (hR : ∀ k, K ≤ k → lockageref07_Stays.l2 k V B ((i + 1 : Nat) : Int) = some R) (d : Nat) :
    ∀ (j k : Nat) (b : Bool), its.length - j = d → (b && !hasT (its.drop j) cClose) = B → d + 1 + K ≤ k → lockageref07_Stays.l3 k V b i its j = some R := by
  induction d with
  | zero =>
    intro j k b hd hb hk
    obtain ⟨k, rfl⟩ : ∃ j, k = j + 1 := ⟨k - 1, by omega⟩
    unfold lockageref07_Stays.l3
    rw [if_neg (by omega), wrap_up i (by omega)]
    rw [List.drop_of_length_le (by omega)] at hb
    have : b = B := by rw [← hb]; simp [hasT]
    rw [this]
    exact hR k (by omega)
  | succ d ih =>
    intro j k b hd hb hk
    obtain ⟨k, rfl⟩ : ∃ j, k = j + 1 := ⟨k - 1, by omega⟩
    have hj : j < its.length := by omega
    unfold lockageref07_Stays.l3
    rw [if_pos (by omega), if_pos (by omega), rdOf_at hj, wrap_up j (by omega)]
    rw [hasT_drop _ _ _ hj] at hb
    by_cases c : its[j].toList = [99, 108, 111, 115, 101]
    · rw [if_pos c]
      refine ih (j + 1) k false (by omega) ?_ (by omega)
      rw [← hb, c]
      simp [cClose]
    · rw [if_neg c]
      refine ih (j + 1) k b (by omega) ?_ (by omega)
      have c' : (cClose == its[j].toList) = false := by simp only [beq_eq_false_iff_ne]; exact fun e => c e.symm
      rw [← hb, c', Bool.false_or]
theorem RStays_l2 (V : List ByteArray) (B : Nat) (hV : ItemsOk V B) (hl : V.length ≤ 100) (d : Nat) :
    ∀ (i k : Nat) (b : Bool), V.length - i = d → i ≤ V.length → d * 3000 + B + 10 ≤ k → lockageref07_Stays.l2 k V b i = some (b && !hasT (allI (V.drop i)) cClose) := by
  induction d with
  | zero =>
    intro i k b hd hi hk
    obtain ⟨k, rfl⟩ : ∃ j, k = j + 1 := ⟨k - 1, by omega⟩
    unfold lockageref07_Stays.l2
    rw [if_neg (by omega), List.drop_of_length_le (by omega)]
    simp [allI, hasT]
  | succ d ih =>
    intro i k b hd hi hk
    obtain ⟨k, rfl⟩ : ∃ j, k = j + 1 := ⟨k - 1, by omega⟩
    have hlt : i < V.length := by omega
    have hv := hV V[i] (List.getElem_mem hlt)
    have hle := items_le V[i]
    have hm : (d + 1) * 3000 = d * 3000 + 3000 := Nat.succ_mul _ _
    unfold lockageref07_Stays.l2
    rw [if_pos (by omega), if_pos (by omega), rdOf_at hlt, hv.2 k (by omega)]
    simp only [Option.bind_some]
    rw [allI_drop V i hlt, hasT_append]
    refine RStays_l3 V (itemsB V[i]) (by omega) i (by omega) _ (d * 3000 + B + 10) (b && !hasT (itemsB V[i]) cClose) (fun k' hk' => ?_) (itemsB V[i]).length 0 k b (by omega) (by simp) (by omega)
    rw [ih (i + 1) k' _ (by omega) (by omega) hk', Bool.not_or, Bool.and_assoc]
theorem RStays_l1 (V its : List ByteArray) (hits : its.length ≤ 2000) (i : Nat) (hi : i ≤ 1000) (R : Bool) (K : Nat) (B : Bool) (hR : ∀ k, K ≤ k → lockageref07_Stays.l0 k V B ((i + 1 : Nat) : Int) = some R) (d : Nat) :
    ∀ (j k : Nat) (b : Bool), its.length - j = d → (b || hasT (its.drop j) cKeep) = B → d + 1 + K ≤ k → lockageref07_Stays.l1 k V b i its j = some R := by
  induction d with
  | zero =>
    intro j k b hd hb hk
    obtain ⟨k, rfl⟩ : ∃ j, k = j + 1 := ⟨k - 1, by omega⟩
    unfold lockageref07_Stays.l1
    rw [if_neg (by omega), wrap_up i (by omega)]
    rw [List.drop_of_length_le (by omega)] at hb
    have : b = B := by rw [← hb]; simp [hasT]
    rw [this]
    exact hR k (by omega)
  | succ d ih =>
    intro j k b hd hb hk
    obtain ⟨k, rfl⟩ : ∃ j, k = j + 1 := ⟨k - 1, by omega⟩
    have hj : j < its.length := by omega
    unfold lockageref07_Stays.l1
    rw [if_pos (by omega), if_pos (by omega), rdOf_at hj, wrap_up j (by omega)]
    rw [hasT_drop _ _ _ hj] at hb
    by_cases c : its[j].toList = [107, 101, 101, 112, 45, 97, 108, 105, 118, 101]
    · rw [if_pos c]
      refine ih (j + 1) k true (by omega) ?_ (by omega)
      rw [← hb, c]
      simp [cKeep]
    · rw [if_neg c]
      refine ih (j + 1) k b (by omega) ?_ (by omega)
      have c' : (cKeep == its[j].toList) = false := by simp only [beq_eq_false_iff_ne]; exact fun e => c e.symm
      rw [← hb, c', Bool.false_or]
theorem RStays_l0 (V : List ByteArray) (B N : Nat) (hV : ItemsOk V B) (hl : V.length ≤ 100) (hN : V.length * 3000 + B + 20 ≤ N) (d : Nat) :
    ∀ (i k : Nat) (b : Bool), V.length - i = d → i ≤ V.length → d * 3000 + N ≤ k → lockageref07_Stays.l0 k V b i = some ((b || hasT (allI (V.drop i)) cKeep) && !hasT (allI V) cClose) := by
  induction d with
  | zero =>
    intro i k b hd hi hk
    obtain ⟨k, rfl⟩ : ∃ j, k = j + 1 := ⟨k - 1, by omega⟩
    unfold lockageref07_Stays.l0
    rw [if_neg (by omega), List.drop_of_length_le (by omega)]
    have hk2 : V.length * 3000 + B + 10 ≤ k := by
      rw [Nat.zero_mul] at hk
      clear hd hi hl
      generalize V.length * 3000 = Q at hN ⊢
      omega
    have := RStays_l2 V B hV hl V.length 0 k b (Nat.sub_zero _) (Nat.zero_le _) hk2
    rw [List.drop_zero] at this
    rw [show lockageref07_Stays.l2 k V b 0 = _ from this]
    simp [allI, hasT]
  | succ d ih =>
    intro i k b hd hi hk
    obtain ⟨k, rfl⟩ : ∃ j, k = j + 1 := ⟨k - 1, by omega⟩
    have hlt : i < V.length := by omega
    have hv := hV V[i] (List.getElem_mem hlt)
    have hle := items_le V[i]
    have hm : (d + 1) * 3000 = d * 3000 + 3000 := Nat.succ_mul _ _
    unfold lockageref07_Stays.l0
    rw [if_pos (by omega), if_pos (by omega), rdOf_at hlt, hv.2 k (by omega)]
    simp only [Option.bind_some]
    rw [allI_drop V i hlt, hasT_append]
    refine RStays_l1 V (itemsB V[i]) (by omega) i (by omega) _ (d * 3000 + N) (b || hasT (itemsB V[i]) cKeep) (fun k' hk' => ?_) (itemsB V[i]).length 0 k b (by omega) (by simp) (by omega)
    rw [ih (i + 1) k' _ (by omega) (by omega) hk', Bool.or_assoc]
theorem RStays_ev (V : List ByteArray) (B : Nat) (hV : ItemsOk V B) (hl : V.length ≤ 100) (a b : ByteArray) (c : Int) (s : ByteArray) (mi : Int) (fs : List S32) (k : Nat) (hk : 800000 + B ≤ k)
    (hG : lockageref05_Get.f k fs (⟨#[99, 111, 110, 110, 101, 99, 116, 105, 111, 110]⟩ : ByteArray) = some V) : lockageref07_Stays.f k a b c s mi fs = some (stayS V mi) := by
  unfold lockageref07_Stays.f
  rw [hG]
  simp only [Option.bind_some]
  have hk2 : V.length * 3000 + (V.length * 3000 + B + 20) ≤ k := by omega
  have := RStays_l0 V B (V.length * 3000 + B + 20) hV hl (Nat.le_refl _) V.length 0 k (mi == 1) (Nat.sub_zero _) (Nat.zero_le _) hk2
  rw [List.drop_zero] at this
  rw [show lockageref07_Stays.l0 k V (mi == 1) 0 = _ from this]
  unfold stayS
  rw [Bool.and_comm]
end Go.Proofs.YtljppmpigijgaaaDoor.P
namespace Go.Proofs.YtljppmpigijgaaaDoor.P
open Go.RowKit Go.Proofs.YtljppmpigijgaaaDoorW.PrintWords Go.Proofs.YtljppmpigijgaaaDoorW.PrintLast Go.Proofs.YtljppmpigijgaaaDoorW.PrintMore
theorem getS_congr (l : List S32) {a b : ByteArray} (h : Sp.lower a.data.toList = Sp.lower b.data.toList) : getS l a = getS l b := by unfold getS; rw [h]
/-- What fields tell: of Transfer-Encoding's texts, Content-Length's, the minor number, and the first length's number. -/
def toldS (T C : List ByteArray) (mi n e : Int) : Int × Int × Int :=
  match T, C with
  | [], [] => (0, 0, 0)
  | [], [_] => if e = 1 then (0, 0, 22) else if e = 0 then (if n > 4000 then (0, 0, 2) else (2, n, 0)) else (0, 0, 2)
  | [], _ :: _ :: _ => (0, 0, 22)
  | [t], [] => if mi = 0 then (0, 0, 22) else if Sp.lower t.data.toList = [99, 104, 117, 110, 107, 101, 100] then (3, 0, 0) else (0, 0, 22)
  | [_], _ :: _ => (0, 0, 22)
  | _ :: _ :: _, _ => (0, 0, 22)
theorem sized_j1 (k : Nat) (n : Int) (x : Bool) : frame_sized.j1 (k + 1) n x = if x = true then some (0, 0, 2) else some (2, n, 0) := by unfold frame_sized.j1; rfl
theorem told_j1 (k : Nat) (x : Bool) : frame_told.j1 (k + 1) x = if x = true then some (0, 0, 22) else some (3, 0, 0) := by unfold frame_told.j1; rfl
end Go.Proofs.YtljppmpigijgaaaDoor.P
namespace Go.Proofs.YtljppmpigijgaaaDoor.P
open Go.RowKit Go.Proofs.YtljppmpigijgaaaDoorW.PrintWords Go.Proofs.YtljppmpigijgaaaDoorW.PrintLast Go.Proofs.YtljppmpigijgaaaDoorW.PrintMore
theorem byte_all {p : Nat → Bool} (h : ((List.range 256).all p) = true) (c : UInt8) : p c.toNat = true := by
  rw [List.all_eq_true] at h
  exact h c.toNat (List.mem_range.2 c.toNat_lt)
theorem byte_back (c : UInt8) : UInt8.ofNat c.toNat = c := by simp
theorem tchar_ev (c : UInt8) (k : Nat) (hk : 40 ≤ k) : lockageref05_tchar.f k (c.toNat : Int) = some (Sp.nameC c) := by
  have h : ((List.range 256).all fun n => lockageref05_tchar.f 40 (n : Int) == some (Sp.nameC (UInt8.ofNat n))) = true := by kernel_rfl
  have := byte_all h c
  rw [byte_back] at this
  exact at_rounds (lockageref05_tchar.mono _) hk (by simpa using this)
theorem blank_ev (c : UInt8) : lockageref05_blank.f (c.toNat : Int) = some (([32, 9] : List UInt8).contains c) := by
  have h : ((List.range 256).all fun n => lockageref05_blank.f (n : Int) == some (([32, 9] : List UInt8).contains (UInt8.ofNat n))) = true := by kernel_rfl
  have := byte_all h c
  rw [byte_back] at this
  simpa using this
theorem wrap_nx (n : Nat) (h : n ≤ 9223372036854775806) : wrap64 ((n : Int) + 1) = ((n + 1 : Nat) : Int) := by unfold wrap64; omega
theorem RefName_at (x : ByteArray) (hx : x.size ≤ 9223372036854775806) (d : Nat) :
    ∀ (i k : Nat), x.size - i = d → i ≤ x.size → d + 50 ≤ k → lockageref05_Name.l0 k x i = some (Sp.allB Sp.nameC (x.data.toList.drop i) && (!x.data.toList.isEmpty && decide (x.data.toList.length ≤ 40))) := by
  have hsz := size_data x
  induction d with
  | zero =>
    intro i k hd hi hk
    obtain ⟨k, rfl⟩ : ∃ j, k = j + 1 := ⟨k - 1, by omega⟩
    unfold lockageref05_Name.l0
    rw [if_neg (by omega), List.drop_of_length_le (by omega), toList_data]
    by_cases h : x.data.toList = []
    · rw [if_pos h, h]
      rfl
    · rw [if_neg h]
      have e1 : x.data.toList.isEmpty = false := by simpa using h
      have e2 : decide ((x.size : Int) ≤ 40) = decide (x.data.toList.length ≤ 40) := by rw [hsz]; exact decide_eq_decide.2 (by omega)
      rw [e1, e2]
      rfl
  | succ d ih =>
    intro i k hd hi hk
    obtain ⟨k, rfl⟩ : ∃ j, k = j + 1 := ⟨k - 1, by omega⟩
    have hlt : i < x.size := by omega
    have hl : i < x.data.toList.length := by omega
    have ed : x.data.toList.drop i = x.data.toList[i] :: x.data.toList.drop (i + 1) := List.drop_eq_getElem_cons hl
    unfold lockageref05_Name.l0
    rw [if_pos (by omega), if_pos (by omega), bt_low hlt, tchar_ev _ k (by omega), ed]
    simp only [Option.bind_some]
    have ea : Sp.allB Sp.nameC (x.data.toList[i] :: x.data.toList.drop (i + 1)) = (Sp.nameC x.data.toList[i] && Sp.allB Sp.nameC (x.data.toList.drop (i + 1))) := rfl
    rw [ea]
    cases hc : Sp.nameC x.data.toList[i] with
    | true =>
      rw [if_pos rfl, wrap_nx i (by omega), ih (i + 1) k (by omega) (by omega) (by omega), Bool.true_and]
    | false =>
      rw [if_neg (by decide), Bool.false_and, Bool.false_and]
theorem RefName_ev (x : ByteArray) (hx : x.size ≤ 9223372036854775806) (k : Nat) (hk : x.size + 50 ≤ k) : lockageref05_Name.f k x = some (Sp.nameB x.data.toList) := by
  unfold lockageref05_Name.f
  have := RefName_at x hx x.size 0 k (Nat.sub_zero _) (Nat.zero_le _) hk
  rw [List.drop_zero] at this
  rw [show lockageref05_Name.l0 k x 0 = _ from this]
  unfold Sp.nameB
  rw [Bool.and_comm, Bool.and_assoc]
theorem right_snoc (l : List UInt8) (b : UInt8) : Lib.trimRightS (l ++ [b]) [32, 9] = if ([32, 9] : List UInt8).contains b = true then Lib.trimRightS l [32, 9] else l ++ [b] := by
  unfold Lib.trimRightS
  rw [List.reverse_append]
  show (List.dropWhile (([32, 9] : List UInt8).contains ·) (b :: l.reverse)).reverse = _
  rw [List.dropWhile_cons]
  split
  · rfl
  · rw [List.reverse_cons, List.reverse_reverse]
theorem right_cons (l : List UInt8) (b : UInt8) (hb : ([32, 9] : List UInt8).contains b = false) : Lib.trimRightS (b :: l) [32, 9] = b :: Lib.trimRightS l [32, 9] := by
  unfold Lib.trimRightS
  rw [List.reverse_cons]
  have : ∀ q : List UInt8, (q ++ [b]).dropWhile (([32, 9] : List UInt8).contains ·) = q.dropWhile (([32, 9] : List UInt8).contains ·) ++ [b] := by
    intro q
    induction q with
    | nil => rw [List.nil_append, List.dropWhile_cons, if_neg (by rw [hb]; exact Bool.false_ne_true)]; rfl
    | cons c q ih =>
      rw [List.cons_append, List.dropWhile_cons, List.dropWhile_cons]
      split
      · exact ih
      · rfl
  rw [this, List.reverse_append]
  rfl
theorem trim_swap : ∀ l : List UInt8, Lib.trimRightS (Lib.trimLeftS l [32, 9]) [32, 9] = Sp.trim l
  | [] => rfl
  | b :: l => by
    cases hb : ([32, 9] : List UInt8).contains b with
    | true =>
      rw [Sp.trim_blank hb, ← trim_swap l]
      unfold Lib.trimLeftS
      rw [List.dropWhile_cons, if_pos hb]
    | false =>
      unfold Sp.trim Lib.trimS
      rw [right_cons l b hb]
      unfold Lib.trimLeftS
      rw [List.dropWhile_cons, if_neg (by rw [hb]; exact Bool.false_ne_true), List.dropWhile_cons, if_neg (by rw [hb]; exact Bool.false_ne_true), right_cons l b hb]
theorem Trim_l1 (n : Nat) : ∀ (x : ByteArray) (k : Nat), x.size = n → x.size ≤ 9223372036854775806 → n + 1 ≤ k → lockageref05_Trim.l1 k x = some ⟨(Lib.trimRightS x.data.toList [32, 9]).toArray⟩ := by
  induction n with
  | zero =>
    intro x k hn hx hk
    obtain ⟨k, rfl⟩ : ∃ j, k = j + 1 := ⟨k - 1, by omega⟩
    have hsz := size_data x
    have e : x.data.toList = [] := List.eq_nil_of_length_eq_zero (by omega)
    unfold lockageref05_Trim.l1
    rw [if_neg (by omega), e]
    exact congrArg some (H.ba_ext (by rw [e]; rfl))
  | succ n ih =>
    intro x k hn hx hk
    obtain ⟨k, rfl⟩ : ∃ j, k = j + 1 := ⟨k - 1, by omega⟩
    have hsz := size_data x
    have hlt : n < x.size := by omega
    have ew : wrap64 ((x.size : Int) - 1) = (n : Int) := by rw [hn]; unfold wrap64; omega
    have hsp : x.data.toList = x.data.toList.take n ++ [x.data.toList[n]'(by omega)] := by
      have := List.take_append_getElem (l := x.data.toList) (i := n) (by omega)
      rw [this, List.take_of_length_le (by omega)]
    have hex : (x.extract 0 n).data.toList = x.data.toList.take n := by
      rw [Lib.extract_data]
      simp
    have hes : (x.extract 0 n).size = n := by rw [← size_data, hex, List.length_take]; omega
    unfold lockageref05_Trim.l1
    rw [ew, if_pos (by omega), if_pos (by omega), if_pos (by omega), bt_low hlt, blank_ev]
    simp only [Option.bind_some]
    rw [if_pos (show (n : Int) ≤ (x.size : Int) by omega), Int.toNat_natCast]
    generalize hb : x.data.toList[n]'(by omega) = b at hsp ⊢
    have er := right_snoc (x.data.toList.take n) b
    rw [← hsp] at er
    rw [er]
    split
    · rw [ih _ k hes (by omega) (by omega), hex]
    · exact congrArg some (H.ba_ext (by simp))
theorem Trim_l0 (n : Nat) : ∀ (x : ByteArray) (k : Nat), x.size = n → x.size ≤ 9223372036854775806 → 2 * n + 5 ≤ k → lockageref05_Trim.l0 k x = some ⟨(Sp.trim x.data.toList).toArray⟩ := by
  induction n with
  | zero =>
    intro x k hn hx hk
    obtain ⟨k, rfl⟩ : ∃ j, k = j + 2 := ⟨k - 2, by omega⟩
    have hsz := size_data x
    have e : x.data.toList = [] := List.eq_nil_of_length_eq_zero (by omega)
    unfold lockageref05_Trim.l0
    rw [if_neg (by omega)]
    unfold lockageref05_Trim.j1
    dsimp only
    rw [Trim_l1 0 x k hn hx (by omega), e]
    rfl
  | succ n ih =>
    intro x k hn hx hk
    obtain ⟨k, rfl⟩ : ∃ j, k = j + 2 := ⟨k - 2, by omega⟩
    have hsz := size_data x
    have hlt : 0 < x.size := by omega
    have hl0 : 0 < x.data.toList.length := by omega
    have hsp : x.data.toList = x.data.toList[0] :: x.data.toList.drop 1 := by
      have := List.drop_eq_getElem_cons hl0
      rw [List.drop_zero] at this
      exact this
    have hex : (x.extract 1 x.size).data.toList = x.data.toList.drop 1 := Lib.extract_to_end x 1
    have hes : (x.extract 1 x.size).size = n := by rw [← size_data, hex, List.length_drop]; omega
    have hbt := bt_low (x := x) (i := 0) hlt
    have hbl := blank_ev (x.data.toList[0])
    unfold lockageref05_Trim.l0
    rw [if_pos (by omega), if_pos (by omega)]
    rw [show bt x 0 = _ from hbt, hbl]
    simp only [Option.bind_some]
    rw [if_pos (show (1 : Int) ≤ (x.size : Int) by omega)]
    generalize x.data.toList[0] = b at hsp ⊢
    cases hb : ([32, 9] : List UInt8).contains b with
    | true =>
      rw [if_pos rfl, ih _ (k + 1) hes (by omega) (by omega), hex, hsp, Sp.trim_blank hb]
      rfl
    | false =>
      rw [if_neg (by decide)]
      unfold lockageref05_Trim.j1
      dsimp only
      rw [Trim_l1 (n + 1) x k hn hx (by omega), ← trim_swap x.data.toList]
      have : Lib.trimLeftS x.data.toList [32, 9] = x.data.toList := by
        rw [hsp]
        unfold Lib.trimLeftS
        rw [List.dropWhile_cons, if_neg (by rw [hb]; exact Bool.false_ne_true)]
      rw [this]
theorem RefTrim_ev (x : ByteArray) (hx : x.size ≤ 9223372036854775806) (k : Nat) (hk : 2 * x.size + 5 ≤ k) : lockageref05_Trim.f k x = some ⟨(Sp.trim x.data.toList).toArray⟩ := Trim_l0 x.size x k rfl hx hk
end Go.Proofs.YtljppmpigijgaaaDoor.P
namespace Go.Proofs.YtljppmpigijgaaaDoor.P
open Go.RowKit Go.Proofs.YtljppmpigijgaaaDoorW.PrintWords Go.Proofs.YtljppmpigijgaaaDoorW.PrintLast Go.Proofs.YtljppmpigijgaaaDoorW.PrintMore
def badV (c : Int) : Bool := if c = 9 then false else if c < 32 then true else decide (c > 126)
theorem badV_ev (c : UInt8) : badV (c.toNat : Int) = !Sp.valC c := by
  have h : ((List.range 256).all fun n => badV (n : Int) == !Sp.valC (UInt8.ofNat n)) = true := by kernel_rfl
  have := byte_all h c
  rw [byte_back] at this
  simpa using this
theorem RefValue_at (x : ByteArray) (hx : x.size ≤ 9223372036854775806) (d : Nat) :
    ∀ (i k : Nat), x.size - i = d → i ≤ x.size → 2 * d + 2 * x.size + 10 ≤ k → lockageref05_Value.l0 k x i = some (Sp.allB Sp.valC (x.data.toList.drop i) && (decide (x.data.toList.length ≤ 200) && (Sp.trim x.data.toList == x.data.toList))) := by
  have hsz := size_data x
  induction d with
  | zero =>
    intro i k hd hi hk
    obtain ⟨k, rfl⟩ : ∃ j, k = j + 1 := ⟨k - 1, by omega⟩
    unfold lockageref05_Value.l0
    rw [if_neg (by omega), List.drop_of_length_le (by omega)]
    by_cases h : (x.size : Int) ≤ 200
    · rw [if_pos h, RefTrim_ev x hx k (by omega), decide_eq_true (by omega : x.data.toList.length ≤ 200)]
      simp only [Option.bind_some]
      rw [toList_data, toList_data]
      rfl
    · rw [if_neg h, decide_eq_false (by omega : ¬ x.data.toList.length ≤ 200)]
      rfl
  | succ d ih =>
    intro i k hd hi hk
    obtain ⟨k, rfl⟩ : ∃ j, k = j + 2 := ⟨k - 2, by omega⟩
    have hlt : i < x.size := by omega
    have hl : i < x.data.toList.length := by omega
    have ed : x.data.toList.drop i = x.data.toList[i] :: x.data.toList.drop (i + 1) := List.drop_eq_getElem_cons hl
    have ea : Sp.allB Sp.valC (x.data.toList[i] :: x.data.toList.drop (i + 1)) = (Sp.valC x.data.toList[i] && Sp.allB Sp.valC (x.data.toList.drop (i + 1))) := rfl
    have hj : lockageref05_Value.l0 (k + 2) x i = lockageref05_Value.j1 (k + 1) x i (badV (x.data.toList[i].toNat : Int)) := by
      unfold lockageref05_Value.l0
      rw [if_pos (by omega), if_pos (by omega), bt_low hlt]
      unfold badV
      split
      · rfl
      · split <;> rfl
    rw [hj, badV_ev, ed, ea]
    unfold lockageref05_Value.j1
    cases hc : Sp.valC x.data.toList[i] with
    | true =>
      rw [if_neg (by decide), wrap_nx i (by omega), ih (i + 1) k (by omega) (by omega) (by omega), Bool.true_and]
    | false =>
      rw [if_pos (by decide), Bool.false_and, Bool.false_and]
theorem RefValue_ev (x : ByteArray) (hx : x.size ≤ 9223372036854775806) (k : Nat) (hk : 4 * x.size + 10 ≤ k) : lockageref05_Value.f k x = some (Sp.valB x.data.toList) := by
  unfold lockageref05_Value.f
  have := RefValue_at x hx x.size 0 k (Nat.sub_zero _) (Nat.zero_le _) (by omega)
  rw [List.drop_zero] at this
  rw [show lockageref05_Value.l0 k x 0 = _ from this]
  unfold Sp.valB
  rw [Bool.and_comm, Bool.and_assoc]
def kept2 (ps : List (List UInt8)) : List ByteArray := ((ps.map fun p => Sp.lower (Sp.trim p)).filter fun p => !p.isEmpty).map H.mkB
theorem kept2_cons (p : List UInt8) (ps : List (List UInt8)) : kept2 (p :: ps) = (if (Sp.lower (Sp.trim p)).isEmpty = true then [] else [H.mkB (Sp.lower (Sp.trim p))]) ++ kept2 ps := by
  unfold kept2
  rw [List.map_cons, List.filter_cons]
  cases (Sp.lower (Sp.trim p)).isEmpty <;> simp
theorem parts_at {q r : List UInt8} (h : (44 : UInt8) ∉ q) : Sp.parts 44 (q ++ 44 :: r) = q :: Sp.parts 44 r := by
  rw [H.parts_some (by simp), Sp.take_to h, Sp.drop_to h]
  rfl
theorem Items_j1 (x : ByteArray) (hx : x.size ≤ 4294967280) (acc : List ByteArray) (fr i k : Nat) (hf : fr ≤ i) (hi : i ≤ x.size) (hk : 2 * x.size + 20 ≤ k) (ha : acc.length ≤ i) (R : List ByteArray)
    (hR : lockageref05_Items.l0 k x (acc ++ kept2 [(x.data.toList.drop fr).take (i - fr)]) ((i + 1 : Nat) : Int) ((i + 1 : Nat) : Int) = some R) :
    lockageref05_Items.j1 (k + 1) x acc fr i false = some R := by
  have hsz := size_data x
  have hex : (x.extract fr i).data.toList = (x.data.toList.drop fr).take (i - fr) := Lib.extract_data x fr i
  have hes : (x.extract fr i).size ≤ x.size := by rw [← size_data, hex, List.length_take, List.length_drop]; omega
  unfold lockageref05_Items.j1
  rw [if_neg (by decide), if_pos (by omega), if_pos (by omega), if_pos (by omega), Int.toNat_natCast, Int.toNat_natCast, RefTrim_ev _ (by omega) k (by omega)]
  simp only [Option.bind_some]
  have ht := Sp.trim_length (x.extract fr i).data.toList
  rw [size_data] at ht
  rw [Low_ev _ (by rw [mk_size]; omega) k (by rw [mk_size]; omega)]
  simp only [Option.bind_some]
  rw [toList_data, wrap_nx i (by omega)]
  rw [kept2_cons, ← hex] at hR
  show (if Sp.lower (Sp.trim (x.extract fr i).data.toList) = [] then _ else _) = _
  by_cases h : Sp.lower (Sp.trim (x.extract fr i).data.toList) = []
  · rw [if_pos h]
    rw [if_pos (by rw [h]; rfl)] at hR
    simpa [kept2] using hR
  · rw [if_neg h, if_pos (by omega)]
    rw [if_neg (by simpa using h)] at hR
    simpa [kept2, H.mkB] using hR
theorem RefItems_at (x : ByteArray) (hx : x.size ≤ 4294967280) (d : Nat) :
    ∀ (fr i k : Nat) (acc : List ByteArray), x.size - i = d → fr ≤ i → i ≤ x.size → (44 : UInt8) ∉ (x.data.toList.drop fr).take (i - fr) → acc.length ≤ i → 2 * d + 2 * x.size + 30 ≤ k →
      lockageref05_Items.l0 k x acc fr i = some (acc ++ kept2 (Sp.parts 44 (x.data.toList.drop fr))) := by
  have hsz := size_data x
  induction d with
  | zero =>
    intro fr i k acc hd hf hi hno ha hk
    obtain ⟨k, rfl⟩ : ∃ j, k = j + 3 := ⟨k - 3, by omega⟩
    have hti : (x.data.toList.drop fr).take (i - fr) = x.data.toList.drop fr := List.take_of_length_le (by rw [List.length_drop]; omega)
    unfold lockageref05_Items.l0
    rw [if_pos (by omega), if_neg (by omega)]
    refine Items_j1 x hx acc fr i (k + 1) hf hi (by omega) ha _ ?_
    unfold lockageref05_Items.l0
    rw [if_neg (by omega), hti]
    rw [hti] at hno
    rw [H.parts_none hno]
  | succ d ih =>
    intro fr i k acc hd hf hi hno ha hk
    obtain ⟨k, rfl⟩ : ∃ j, k = j + 2 := ⟨k - 2, by omega⟩
    have hlt : i < x.size := by omega
    have hl : i < x.data.toList.length := by omega
    unfold lockageref05_Items.l0
    rw [if_pos (by omega), if_pos (by omega), if_pos (by omega), bt_low hlt]
    have hdr : x.data.toList.drop fr = (x.data.toList.drop fr).take (i - fr) ++ x.data.toList[i] :: x.data.toList.drop (i + 1) := by
      have h1 := (List.take_append_drop (i - fr) (x.data.toList.drop fr)).symm
      rw [List.drop_drop, show fr + (i - fr) = i by omega, List.drop_eq_getElem_cons hl] at h1
      exact h1
    by_cases hc : x.data.toList[i] = 44
    · have hb : ((x.data.toList[i].toNat : Int) != 44) = false := by rw [hc]; rfl
      rw [hb]
      refine Items_j1 x hx acc fr i k hf hi (by omega) ha _ ?_
      have hlen : (kept2 [(x.data.toList.drop fr).take (i - fr)]).length ≤ 1 := by
        unfold kept2
        rw [List.length_map]
        exact Nat.le_trans (List.length_filter_le _ _) (by simp)
      rw [ih (i + 1) (i + 1) k _ (by omega) (Nat.le_refl _) (by omega) (by simp) (by rw [List.length_append]; omega) (by omega), List.append_assoc]
      congr 2
      rw [hdr, hc, parts_at hno, List.take_append_of_le_length (by rw [List.length_take, List.length_drop]; omega), List.take_take, Nat.min_self]
      rw [kept2_cons, kept2_cons]
      simp [kept2]
    · have hb : ((x.data.toList[i].toNat : Int) != 44) = true := by
        simp only [bne_iff_ne]
        intro e
        apply hc
        have : x.data.toList[i].toNat = 44 := by omega
        rw [← UInt8.ofNat_toNat (x := x.data.toList[i]), this]
        rfl
      rw [hb]
      unfold lockageref05_Items.j1
      rw [if_pos rfl, wrap_nx i (by omega)]
      refine ih fr (i + 1) k acc (by omega) (by omega) (by omega) ?_ (by omega) (by omega)
      have e1 : (x.data.toList.drop fr).take (i + 1 - fr) = (x.data.toList.drop fr).take (i - fr) ++ [x.data.toList[i]] := by
        rw [show i + 1 - fr = (i - fr) + 1 by omega, List.take_succ_eq_append_getElem (by rw [List.length_drop]; omega), List.getElem_drop]
        congr 2
        congr 1
        omega
      rw [e1]
      intro hm
      rcases List.mem_append.1 hm with hm | hm
      · exact hno hm
      · exact hc (List.mem_singleton.1 hm).symm
theorem RefItems_ev (x : ByteArray) (hx : x.size ≤ 4294967280) (k : Nat) (hk : 4 * x.size + 30 ≤ k) : lockageref05_Items.f k x = some (itemsB x) := by
  unfold lockageref05_Items.f
  have := RefItems_at x hx x.size 0 0 k [] (Nat.sub_zero _) (Nat.le_refl _) (Nat.zero_le _) (by simp) (by simp) (by omega)
  rw [show lockageref05_Items.l0 k x [] 0 0 = _ from this]
  rfl
end Go.Proofs.YtljppmpigijgaaaDoor.P
namespace Go.Proofs.YtljppmpigijgaaaDoor.P
open Go.RowKit Go.Proofs.YtljppmpigijgaaaDoorW.PrintWords Go.Proofs.YtljppmpigijgaaaDoorW.PrintLast Go.Proofs.YtljppmpigijgaaaDoorW.PrintMore
def targC (c : UInt8) : Bool := 33 ≤ c.toNat && c.toNat ≤ 126
def okIn (first : Int) (tab : Bool) (c : Int) : Bool := if c < first then tab && c == 9 else if c > 126 then tab && c == 9 else true
theorem okIn_val (c : UInt8) : okIn 32 true (c.toNat : Int) = Sp.valC c := by
  have h : ((List.range 256).all fun n => okIn 32 true (n : Int) == Sp.valC (UInt8.ofNat n)) = true := by kernel_rfl
  have := byte_all h c
  rw [byte_back] at this
  simpa using this
theorem okIn_targ (c : UInt8) : okIn 33 false (c.toNat : Int) = targC c := by
  have h : ((List.range 256).all fun n => okIn 33 false (n : Int) == targC (UInt8.ofNat n)) = true := by kernel_rfl
  have := byte_all h c
  rw [byte_back] at this
  simpa using this
theorem within_at (x : ByteArray) (hx : x.size ≤ 9223372036854775806) (first : Int) (tab : Bool) (p : UInt8 → Bool) (hp : ∀ c : UInt8, okIn first tab (c.toNat : Int) = p c) (d : Nat) :
    ∀ (i k : Nat), x.size - i = d → i ≤ x.size → 2 * d + 5 ≤ k → head_within.l0 k x first tab (x.size : Int) i = some ((x.data.toList.drop i).all p) := by
  have hsz := size_data x
  induction d with
  | zero =>
    intro i k hd hi hk
    obtain ⟨k, rfl⟩ : ∃ j, k = j + 1 := ⟨k - 1, by omega⟩
    unfold head_within.l0
    rw [if_neg (by omega), List.drop_of_length_le (by omega)]
    rfl
  | succ d ih =>
    intro i k hd hi hk
    obtain ⟨k, rfl⟩ : ∃ j, k = j + 2 := ⟨k - 2, by omega⟩
    have hlt : i < x.size := by omega
    have hl : i < x.data.toList.length := by omega
    have hj : head_within.l0 (k + 2) x first tab (x.size : Int) i = head_within.j1 (k + 1) x first tab (x.size : Int) i (!okIn first tab (x.data.toList[i].toNat : Int)) := by
      unfold head_within.l0
      rw [if_pos (by omega), if_pos (by omega), if_pos (by omega), bt_low hlt]
      unfold okIn
      cases tab <;> (split <;> (try rfl) <;> (split <;> rfl))
    rw [hj, hp, List.drop_eq_getElem_cons hl, List.all_cons]
    unfold head_within.j1
    cases hc : p x.data.toList[i] with
    | true => rw [if_neg (by decide), wrap_nx i (by omega), ih (i + 1) k (by omega) (by omega) (by omega), Bool.true_and]
    | false => rw [if_pos (by decide), Bool.false_and]
theorem within_ev (x : ByteArray) (hx : x.size ≤ 9223372036854775806) (first : Int) (tab : Bool) (p : UInt8 → Bool) (hp : ∀ c : UInt8, okIn first tab (c.toNat : Int) = p c) (k : Nat) (hk : 2 * x.size + 5 ≤ k) : head_within.f k x first tab = some (x.data.toList.all p) := by
  unfold head_within.f
  have := within_at x hx first tab p hp x.size 0 k (Nat.sub_zero _) (Nat.zero_le _) hk
  rw [List.drop_zero] at this
  exact this
def reasonS (l : List UInt8) : Bool := decide (l.length ≤ 200) && l.all Sp.valC
def targetS (l : List UInt8) : Bool := !l.isEmpty && (decide (l.length ≤ 200) && l.all targC)
theorem reason_ev (x : ByteArray) (hx : x.size ≤ 9223372036854775806) (k : Nat) (hk : 2 * x.size + 5 ≤ k) : head_reason.f k x = some (reasonS x.data.toList) := by
  unfold head_reason.f reasonS
  rw [size_data]
  by_cases h : (x.size : Int) ≤ 200
  · rw [if_pos h, within_ev x hx 32 true Sp.valC okIn_val k hk, decide_eq_true (by omega : x.size ≤ 200), Bool.true_and]
    rfl
  · rw [if_neg h, decide_eq_false (by omega : ¬ x.size ≤ 200), Bool.false_and]
theorem target_ev (x : ByteArray) (hx : x.size ≤ 9223372036854775806) (k : Nat) (hk : 2 * x.size + 5 ≤ k) : head_target.f k x = some (targetS x.data.toList) := by
  unfold head_target.f targetS
  rw [toList_data, size_data]
  by_cases h0 : x.data.toList = []
  · rw [if_pos h0, h0]
    rfl
  · have e1 : x.data.toList.isEmpty = false := by simpa using h0
    rw [if_neg h0, e1]
    by_cases h : (x.size : Int) ≤ 200
    · rw [if_pos h, within_ev x hx 33 false targC okIn_targ k hk, decide_eq_true (by omega : x.size ≤ 200)]
      rfl
    · rw [if_neg h, decide_eq_false (by omega : ¬ x.size ≤ 200)]
      rfl
theorem Rreason_at (x : ByteArray) (hx : x.size ≤ 9223372036854775806) (d : Nat) :
    ∀ (i k : Nat), x.size - i = d → i ≤ x.size → 2 * d + 5 ≤ k → lockageref06_reason.l0 k x i = some ((x.data.toList.drop i).all Sp.valC && decide (x.size ≤ 200)) := by
  have hsz := size_data x
  induction d with
  | zero =>
    intro i k hd hi hk
    obtain ⟨k, rfl⟩ : ∃ j, k = j + 1 := ⟨k - 1, by omega⟩
    unfold lockageref06_reason.l0
    rw [if_neg (by omega), List.drop_of_length_le (by omega)]
    exact congrArg some (decide_eq_decide.2 (by omega))
  | succ d ih =>
    intro i k hd hi hk
    obtain ⟨k, rfl⟩ : ∃ j, k = j + 2 := ⟨k - 2, by omega⟩
    have hlt : i < x.size := by omega
    have hl : i < x.data.toList.length := by omega
    have hj : lockageref06_reason.l0 (k + 2) x i = lockageref06_reason.j1 (k + 1) x i (badV (x.data.toList[i].toNat : Int)) := by
      unfold lockageref06_reason.l0
      rw [if_pos (by omega), if_pos (by omega), bt_low hlt]
      unfold badV
      split
      · rfl
      · split <;> rfl
    rw [hj, badV_ev, List.drop_eq_getElem_cons hl, List.all_cons]
    unfold lockageref06_reason.j1
    cases hc : Sp.valC x.data.toList[i] with
    | true => rw [if_neg (by decide), wrap_nx i (by omega), ih (i + 1) k (by omega) (by omega) (by omega), Bool.true_and]
    | false => rw [if_pos (by decide), Bool.false_and, Bool.false_and]
theorem Rreason_ev (x : ByteArray) (hx : x.size ≤ 9223372036854775806) (k : Nat) (hk : 2 * x.size + 5 ≤ k) : lockageref06_reason.f k x = some (reasonS x.data.toList) := by
  unfold lockageref06_reason.f
  have := Rreason_at x hx x.size 0 k (Nat.sub_zero _) (Nat.zero_le _) hk
  rw [List.drop_zero] at this
  rw [show lockageref06_reason.l0 k x 0 = _ from this]
  unfold reasonS
  rw [size_data, Bool.and_comm]
theorem Rtarget_at (x : ByteArray) (hx : x.size ≤ 9223372036854775806) (d : Nat) :
    ∀ (i k : Nat), x.size - i = d → i ≤ x.size → d + 5 ≤ k → lockageref06_target.l0 k x i = some ((x.data.toList.drop i).all targC && (!x.data.toList.isEmpty && decide (x.size ≤ 200))) := by
  have hsz := size_data x
  induction d with
  | zero =>
    intro i k hd hi hk
    obtain ⟨k, rfl⟩ : ∃ j, k = j + 1 := ⟨k - 1, by omega⟩
    unfold lockageref06_target.l0
    rw [if_neg (by omega), List.drop_of_length_le (by omega), toList_data]
    by_cases h0 : x.data.toList = []
    · rw [if_pos h0, h0]
      rfl
    · have e1 : x.data.toList.isEmpty = false := by simpa using h0
      rw [if_neg h0, e1]
      exact congrArg some (decide_eq_decide.2 (by omega))
  | succ d ih =>
    intro i k hd hi hk
    obtain ⟨k, rfl⟩ : ∃ j, k = j + 1 := ⟨k - 1, by omega⟩
    have hlt : i < x.size := by omega
    have hl : i < x.data.toList.length := by omega
    unfold lockageref06_target.l0
    rw [if_pos (by omega), if_pos (by omega), bt_low hlt, List.drop_eq_getElem_cons hl, List.all_cons]
    generalize hb : x.data.toList[i] = b
    by_cases h1 : (b.toNat : Int) < 33
    · have : targC b = false := by unfold targC; simp; omega
      rw [if_pos h1, this, Bool.false_and, Bool.false_and]
    · by_cases h2 : (b.toNat : Int) > 126
      · have : targC b = false := by unfold targC; simp; omega
        rw [if_neg h1, if_pos h2, this, Bool.false_and, Bool.false_and]
      · have : targC b = true := by unfold targC; simp; omega
        rw [if_neg h1, if_neg h2, this, Bool.true_and, wrap_nx i (by omega), ih (i + 1) k (by omega) (by omega) (by omega)]
theorem Rtarget_ev (x : ByteArray) (hx : x.size ≤ 9223372036854775806) (k : Nat) (hk : x.size + 5 ≤ k) : lockageref06_target.f k x = some (targetS x.data.toList) := by
  unfold lockageref06_target.f
  have := Rtarget_at x hx x.size 0 k (Nat.sub_zero _) (Nat.zero_le _) hk
  rw [List.drop_zero] at this
  rw [show lockageref06_target.l0 k x 0 = _ from this]
  unfold targetS
  rw [size_data, Bool.and_comm, Bool.and_assoc]
theorem Rfields_at (B : Nat) (hB : B ≤ 9223372036854775806) (fs : List S32) (hl : fs.length < 4398046511104) (hs : ∀ x ∈ fs, x.f0.size ≤ B ∧ x.f1.size ≤ B) (d : Nat) :
    ∀ (i k : Nat), fs.length - i = d → i ≤ fs.length → d + 4 * B + 60 ≤ k → lockageref06_fields.l0 k fs i = some (!(fs.drop i).any badF && decide (fs.length ≤ 20)) := by
  induction d with
  | zero =>
    intro i k hd hi hk
    obtain ⟨k, rfl⟩ : ∃ j, k = j + 1 := ⟨k - 1, by omega⟩
    unfold lockageref06_fields.l0
    rw [if_neg (by omega), List.drop_of_length_le (by omega)]
    exact congrArg some (decide_eq_decide.2 (by omega))
  | succ d ih =>
    intro i k hd hi hk
    obtain ⟨k, rfl⟩ : ∃ j, k = j + 1 := ⟨k - 1, by omega⟩
    have hlt : i < fs.length := by omega
    have hx : rd_T32 fs (i : Int) = fs[i] := by simp [rd_T32, hlt]
    have hm := hs fs[i] (List.getElem_mem hlt)
    unfold lockageref06_fields.l0
    rw [if_pos (by omega), if_pos (by omega), hx, RefName_ev _ (by omega) k (by omega), RefValue_ev _ (by omega) k (by omega), List.drop_eq_getElem_cons hlt, List.any_cons]
    simp only [Option.bind_some]
    have eb : badF fs[i] = (!Sp.nameB fs[i].f0.data.toList || !Sp.valB fs[i].f1.data.toList) := rfl
    rw [eb, wrap_nx i (by omega)]
    cases Sp.nameB fs[i].f0.data.toList with
    | false => rw [if_neg (by decide)]; rfl
    | true =>
      rw [if_pos rfl]
      cases Sp.valB fs[i].f1.data.toList with
      | false => rw [if_neg (by decide)]; rfl
      | true =>
        rw [if_pos rfl, ih (i + 1) k (by omega) (by omega) (by omega)]
        rfl
theorem Rfields_ev (B : Nat) (hB : B ≤ 9223372036854775806) (fs : List S32) (hl : fs.length < 4398046511104) (hs : ∀ x ∈ fs, x.f0.size ≤ B ∧ x.f1.size ≤ B) (k : Nat) (hk : fs.length + 4 * B + 60 ≤ k) :
    lockageref06_fields.f k fs = some (!fs.any badF && decide (fs.length ≤ 20)) := by
  unfold lockageref06_fields.f
  have := Rfields_at B hB fs hl hs fs.length 0 k (Nat.sub_zero _) (Nat.zero_le _) (by omega)
  rw [List.drop_zero] at this
  exact this
end Go.Proofs.YtljppmpigijgaaaDoor.P
namespace Go.Proofs.YtljppmpigijgaaaDoor.P
open Go.RowKit Go.Proofs.YtljppmpigijgaaaDoorW.PrintWords Go.Proofs.YtljppmpigijgaaaDoorW.PrintLast Go.Proofs.YtljppmpigijgaaaDoorW.PrintMore
def digV (c : UInt8) : Int := if 48 ≤ c.toNat && c.toNat ≤ 57 then (c.toNat : Int) - 48 else -1
theorem digit_ev (c : UInt8) (k : Nat) (hk : 20 ≤ k) : num_digit.f k (c.toNat : Int) 10 = some (digV c) := by
  have h : ((List.range 256).all fun n => num_digit.f 20 (n : Int) 10 == some (digV (UInt8.ofNat n))) = true := by kernel_rfl
  have := byte_all h c
  rw [byte_back] at this
  exact at_rounds (num_digit.mono _ _) hk (by simpa using this)
theorem value_ev (c : UInt8) (k : Nat) (hk : 20 ≤ k) : lockageref03_value.f k (c.toNat : Int) 10 = some (digV c) := by
  have h : ((List.range 256).all fun n => lockageref03_value.f 20 (n : Int) 10 == some (digV (UInt8.ofNat n))) = true := by kernel_rfl
  have := byte_all h c
  rw [byte_back] at this
  exact at_rounds (lockageref03_value.mono _ _) hk (by simpa using this)
def isDig (c : UInt8) : Bool := 48 ≤ c.toNat && c.toNat ≤ 57
theorem digV_yes {c : UInt8} (h : isDig c = true) : 0 ≤ digV c ∧ digV c ≤ 9 := by
  unfold isDig at h
  unfold digV
  rw [if_pos h]
  simp only [Bool.and_eq_true, decide_eq_true_eq] at h
  omega
theorem digV_no {c : UInt8} (h : isDig c = false) : digV c = -1 := by
  unfold isDig at h
  unfold digV
  rw [if_neg (by rw [h]; exact Bool.false_ne_true)]
def numS : List UInt8 → Int → Option Int
  | [], n => some n
  | c :: l, n => if n * 10 + digV c ≤ 9007199254740992 then numS l (n * 10 + digV c) else none
def outS : Option Int → Int × Int
  | some n => (n, 0)
  | none => (0, 3)
def parseS (l : List UInt8) : Int × Int := if l = [] then (0, 1) else if l.all isDig = true then outS (numS l 0) else (0, 1)
theorem all_drop (l : List UInt8) (i : Nat) (h : i < l.length) : (l.drop i).all isDig = (isDig l[i] && (l.drop (i + 1)).all isDig) := by
  rw [List.drop_eq_getElem_cons h, List.all_cons]
theorem numS_drop (l : List UInt8) (i : Nat) (h : i < l.length) (n : Int) : numS (l.drop i) n = if n * 10 + digV l[i] ≤ 9007199254740992 then numS (l.drop (i + 1)) (n * 10 + digV l[i]) else none := by
  rw [List.drop_eq_getElem_cons h]
  rfl
theorem Fits_f (n : Int) : num_Fits.f n = some (decide (0 ≤ n) && decide (n ≤ 9007199254740992)) := by
  unfold num_Fits.f
  by_cases h : n ≥ 0
  · rw [if_pos h, decide_eq_true (show 0 ≤ n from h), Bool.true_and]
  · rw [if_neg h, decide_eq_false (show ¬ 0 ≤ n from h), Bool.false_and]
theorem RFits_f (n : Int) : lockageref03_Fits.f n = some (decide (0 ≤ n) && decide (n ≤ 9007199254740992)) := by
  unfold lockageref03_Fits.f
  by_cases h : n ≥ 0
  · rw [if_pos h, decide_eq_true (show 0 ≤ n from h), Bool.true_and]
  · rw [if_neg h, decide_eq_false (show ¬ 0 ≤ n from h), Bool.false_and]
theorem wrap_of {n : Int} (h : -9223372036854775808 ≤ n ∧ n ≤ 9223372036854775807) : wrap64 n = n := by unfold wrap64; omega
theorem num_bad (x : ByteArray) (hx : x.size ≤ 9223372036854775806) (d : Nat) : ∀ (i k : Nat), x.size - i = d → i ≤ x.size → 2 * d + 30 ≤ k →
    num_Parse.l0 k x 10 0 3 (x.size : Int) i = some (if (x.data.toList.drop i).all isDig = true then (0, 3) else (0, 1)) := by
  have hsz := size_data x
  induction d with
  | zero =>
    intro i k hd hi hk
    obtain ⟨k, rfl⟩ : ∃ j, k = j + 1 := ⟨k - 1, by omega⟩
    unfold num_Parse.l0
    rw [if_neg (by omega), List.drop_of_length_le (by omega)]
    rfl
  | succ d ih =>
    intro i k hd hi hk
    obtain ⟨k, rfl⟩ : ∃ j, k = j + 2 := ⟨k - 2, by omega⟩
    have hlt : i < x.size := by omega
    have hl : i < x.data.toList.length := by omega
    unfold num_Parse.l0
    rw [if_pos (by omega), if_pos (by omega), if_pos (by omega), bt_low hlt, digit_ev _ (k + 1) (by omega), all_drop _ _ hl]
    simp only [Option.bind_some]
    cases hc : isDig x.data.toList[i] with
    | false =>
      rw [if_pos (digV_no hc)]
      rfl
    | true =>
      have hv := digV_yes hc
      rw [if_neg (by omega), if_neg (by decide)]
      unfold num_Parse.j2
      rw [Fits_f]
      simp only [Option.bind_some]
      rw [if_pos (by decide), wrap_nx i (by omega), ih (i + 1) k (by omega) (by omega) (by omega), Bool.true_and]
theorem num_good (x : ByteArray) (hx : x.size ≤ 9223372036854775806) (d : Nat) : ∀ (i k : Nat) (n : Int), x.size - i = d → i ≤ x.size → 2 * d + 30 ≤ k → 0 ≤ n → n ≤ 9007199254740992 →
    num_Parse.l0 k x 10 n 0 (x.size : Int) i = some (if (x.data.toList.drop i).all isDig = true then outS (numS (x.data.toList.drop i) n) else (0, 1)) := by
  have hsz := size_data x
  induction d with
  | zero =>
    intro i k n hd hi hk h0 h1
    obtain ⟨k, rfl⟩ : ∃ j, k = j + 1 := ⟨k - 1, by omega⟩
    unfold num_Parse.l0
    rw [if_neg (by omega), List.drop_of_length_le (by omega)]
    rfl
  | succ d ih =>
    intro i k n hd hi hk h0 h1
    obtain ⟨k, rfl⟩ : ∃ j, k = j + 2 := ⟨k - 2, by omega⟩
    have hlt : i < x.size := by omega
    have hl : i < x.data.toList.length := by omega
    unfold num_Parse.l0
    rw [if_pos (by omega), if_pos (by omega), if_pos (by omega), bt_low hlt, digit_ev _ (k + 1) (by omega), all_drop _ _ hl, numS_drop _ _ hl]
    simp only [Option.bind_some]
    cases hc : isDig x.data.toList[i] with
    | false =>
      rw [if_pos (digV_no hc)]
      rfl
    | true =>
      have hv := digV_yes hc
      generalize digV x.data.toList[i] = v at hv ⊢
      rw [if_neg (by omega), if_pos trivial, wrap_of (n := n * 10) (by omega), wrap_of (n := n * 10 + v) (by omega)]
      unfold num_Parse.j2
      rw [Fits_f, decide_eq_true (show 0 ≤ n * 10 + v by omega)]
      simp only [Option.bind_some, Bool.true_and]
      by_cases hm : n * 10 + v ≤ 9007199254740992
      · rw [if_pos (decide_eq_true hm), if_pos hm, wrap_nx i (by omega), ih (i + 1) k _ (by omega) (by omega) (by omega) (by omega) hm]
      · rw [if_neg (by simpa using hm), if_neg hm, wrap_nx i (by omega), num_bad x hx d (i + 1) k (by omega) (by omega) (by omega)]
        rfl
theorem Parse_ev (x : ByteArray) (hx : x.size ≤ 9223372036854775806) (k : Nat) (hk : 2 * x.size + 40 ≤ k) : num_Parse.f k x 10 = some (parseS x.data.toList) := by
  obtain ⟨k, rfl⟩ : ∃ j, k = j + 1 := ⟨k - 1, by omega⟩
  unfold num_Parse.f parseS
  rw [toList_data]
  by_cases h : x.data.toList = []
  · rw [if_pos h, if_pos h]
    unfold num_Parse.j0
    rfl
  · rw [if_neg h, if_neg h, if_pos rfl]
    unfold num_Parse.j0
    dsimp only
    rw [if_neg (by decide)]
    have := num_good x hx x.size 0 k 0 (Nat.sub_zero _) (Nat.zero_le _) (by omega) (by decide) (by decide)
    rw [List.drop_zero] at this
    exact this
theorem ref_l1 (x : ByteArray) (hx : x.size ≤ 9223372036854775806) (hall : x.data.toList.all isDig = true) (d : Nat) : ∀ (i k : Nat) (n : Int), x.size - i = d → i ≤ x.size → 2 * d + 60 ≤ k → 0 ≤ n → n ≤ 9007199254740992 →
    lockageref03_Parse.l1 k x 10 n i = some (outS (numS (x.data.toList.drop i) n)) := by
  have hsz := size_data x
  induction d with
  | zero =>
    intro i k n hd hi hk h0 h1
    obtain ⟨k, rfl⟩ : ∃ j, k = j + 1 := ⟨k - 1, by omega⟩
    unfold lockageref03_Parse.l1
    rw [if_neg (by omega), List.drop_of_length_le (by omega)]
    rfl
  | succ d ih =>
    intro i k n hd hi hk h0 h1
    obtain ⟨k, rfl⟩ : ∃ j, k = j + 2 := ⟨k - 2, by omega⟩
    have hlt : i < x.size := by omega
    have hl : i < x.data.toList.length := by omega
    have hv := digV_yes (List.all_eq_true.1 hall _ (List.getElem_mem hl))
    have eq10 : wrap64 (Int.tdiv 9007199254740992 10) = 900719925474099 := by unfold wrap64; decide
    have hM : lockageref03_Mul.f (k + 1) n 10 = some (if n > 900719925474099 then (0, 3) else (n * 10, 0)) := by
      unfold lockageref03_Mul.f
      rw [RFits_f, RFits_f, decide_eq_true h0, decide_eq_true h1]
      simp only [Option.bind_some, Bool.and_self, if_true]
      unfold lockageref03_Mul.j0
      dsimp only
      rw [if_neg (by decide), if_pos (by decide), if_neg (by decide), eq10]
      by_cases h : n > 900719925474099
      · rw [if_pos h, if_pos h]
      · rw [if_neg h, if_neg h, wrap_of (by omega)]
    have hA : ∀ a v : Int, 0 ≤ a → a ≤ 9007199254740992 → 0 ≤ v → v ≤ 9 → lockageref03_Add.f (k + 1) a v = some (if a + v ≤ 9007199254740992 then (a + v, 0) else (0, 3)) := by
      intro a v ha0 ha1 hv0 hv1
      unfold lockageref03_Add.f
      rw [RFits_f, RFits_f, decide_eq_true ha0, decide_eq_true ha1, decide_eq_true hv0, decide_eq_true (show v ≤ 9007199254740992 by omega)]
      simp only [Option.bind_some, Bool.and_self, if_true]
      unfold lockageref03_Add.j0
      dsimp only
      rw [if_neg (by decide), wrap_of (n := 9007199254740992 - v) (by omega)]
      by_cases h : a + v ≤ 9007199254740992
      · rw [if_neg (by omega), if_pos h, wrap_of (by omega)]
      · rw [if_pos (by omega), if_neg h]
    unfold lockageref03_Parse.l1
    rw [if_pos (by omega), hM, numS_drop _ _ hl]
    simp only [Option.bind_some]
    rw [if_pos (by omega), bt_low hlt, value_ev _ (k + 1) (by omega)]
    simp only [Option.bind_some]
    generalize digV x.data.toList[i] = v at hv ⊢
    by_cases h : n > 900719925474099
    · rw [if_pos h, hA 0 v (by decide) (by decide) hv.1 hv.2]
      simp only [Option.bind_some]
      rw [if_neg (by decide), if_neg (by omega)]
      rfl
    · rw [if_neg h, hA (n * 10) v (by omega) (by omega) hv.1 hv.2]
      simp only [Option.bind_some]
      rw [if_pos trivial]
      by_cases hm : n * 10 + v ≤ 9007199254740992
      · rw [if_pos hm, if_pos hm]
        simp only [if_true]
        rw [wrap_nx i (by omega)]
        exact ih (i + 1) (k + 1) _ (by omega) (by omega) (by omega) (by omega) hm
      · rw [if_neg hm, if_neg hm, if_neg (by decide)]
        rfl
theorem ref_l0 (x : ByteArray) (hx : x.size ≤ 9223372036854775806) (d : Nat) : ∀ (i k : Nat), x.size - i = d → i ≤ x.size → (x.data.toList.take i).all isDig = true → d + 2 * x.size + 80 ≤ k →
    lockageref03_Parse.l0 k x 10 i = some (if x.data.toList.all isDig = true then outS (numS x.data.toList 0) else (0, 1)) := by
  have hsz := size_data x
  induction d with
  | zero =>
    intro i k hd hi ht hk
    obtain ⟨k, rfl⟩ : ∃ j, k = j + 1 := ⟨k - 1, by omega⟩
    rw [List.take_of_length_le (by omega)] at ht
    unfold lockageref03_Parse.l0
    rw [if_neg (by omega), if_pos ht]
    have := ref_l1 x hx ht x.size 0 k 0 (Nat.sub_zero _) (Nat.zero_le _) (by omega) (by decide) (by decide)
    rw [List.drop_zero] at this
    exact this
  | succ d ih =>
    intro i k hd hi ht hk
    obtain ⟨k, rfl⟩ : ∃ j, k = j + 1 := ⟨k - 1, by omega⟩
    have hlt : i < x.size := by omega
    have hl : i < x.data.toList.length := by omega
    unfold lockageref03_Parse.l0
    rw [if_pos (by omega), if_pos (by omega), bt_low hlt, value_ev _ k (by omega)]
    simp only [Option.bind_some]
    cases hc : isDig x.data.toList[i] with
    | false =>
      have hall : x.data.toList.all isDig = false := by
        rw [List.all_eq_false]
        exact ⟨_, List.getElem_mem hl, by rw [hc]; exact Bool.false_ne_true⟩
      rw [if_pos (by rw [digV_no hc]; decide), if_neg (by rw [hall]; exact Bool.false_ne_true)]
    | true =>
      have hv := digV_yes hc
      rw [if_neg (by omega), wrap_nx i (by omega)]
      refine ih (i + 1) k (by omega) (by omega) ?_ (by omega)
      rw [List.take_succ_eq_append_getElem hl, List.all_append, ht, List.all_cons, hc]
      rfl
theorem RefParse_ev (x : ByteArray) (hx : x.size ≤ 9223372036854775806) (k : Nat) (hk : 4 * x.size + 100 ≤ k) : lockageref03_Parse.f k x 10 = some (parseS x.data.toList) := by
  obtain ⟨k, rfl⟩ : ∃ j, k = j + 1 := ⟨k - 1, by omega⟩
  unfold lockageref03_Parse.f parseS
  rw [toList_data]
  by_cases h : x.data.toList = []
  · rw [if_pos h, if_pos h]
    unfold lockageref03_Parse.j0
    rfl
  · rw [if_neg h, if_neg h, if_pos rfl]
    unfold lockageref03_Parse.j0
    dsimp only
    rw [if_neg (by decide)]
    exact ref_l0 x hx x.size 0 k (Nat.sub_zero _) (Nat.zero_le _) rfl (by omega)
end Go.Proofs.YtljppmpigijgaaaDoor.P
namespace Go.Proofs.YtljppmpigijgaaaDoor.P
open Go.RowKit Go.Proofs.YtljppmpigijgaaaDoorW.PrintWords Go.Proofs.YtljppmpigijgaaaDoorW.PrintLast Go.Proofs.YtljppmpigijgaaaDoorW.PrintMore
theorem told_g (P k : Nat) (a b : ByteArray) (c : Int) (d : ByteArray) (mi : Int) (fs : List S32) (T C : List ByteArray) (n e : Int) (hk : P + 10 ≤ k)
    (hT : field_Get.f k fs (⟨#[84, 114, 97, 110, 115, 102, 101, 114, 45, 69, 110, 99, 111, 100, 105, 110, 103]⟩ : ByteArray) = some T)
    (hC : field_Get.f k fs (⟨#[67, 111, 110, 116, 101, 110, 116, 45, 76, 101, 110, 103, 116, 104]⟩ : ByteArray) = some C)
    (hs : ∀ t ∈ T, t.size ≤ 9223372036854775806) (hP : ∀ c0 r, C = c0 :: r → ∀ k, P ≤ k → num_Parse.f k c0 10 = some (n, e)) :
    frame_told.f k a b c d mi fs = some (toldS T C mi n e) := by
  unfold frame_told.f
  rw [hT, hC]
  simp only [Option.bind_some]
  obtain ⟨k, rfl⟩ : ∃ j, k = j + 3 := ⟨k - 3, by omega⟩
  match T, C with
  | [], [] => rfl
  | [], [c0] =>
    have hp := hP c0 [] rfl (k + 2) (by omega)
    simp only [List.length_cons, List.length_nil, Nat.zero_add]
    rw [if_pos (by rfl)]
    unfold frame_told.j0
    dsimp only
    rw [if_neg (by decide), if_pos (by rfl)]
    unfold frame_sized.f
    rw [if_pos (by simp)]
    have hr : rdOf ByteArray.empty [c0] 0 = c0 := rfl
    rw [hr, hp]
    simp only [Option.bind_some, List.length_cons, List.length_nil, Nat.zero_add]
    rw [if_neg (by decide)]
    unfold frame_sized.j0
    dsimp only
    show _ = some (if e = 1 then ((0, 0, 22) : Int × Int × Int) else if e = 0 then (if n > 4000 then (0, 0, 2) else (2, n, 0)) else (0, 0, 2))
    by_cases h1 : e = 1
    · rw [if_pos (by simpa using h1), if_pos h1]
      rfl
    · rw [if_neg (by simpa using h1), if_neg h1]
      by_cases h0 : e = 0
      · rw [if_pos h0, if_pos h0, sized_j1]
        by_cases h4 : n > 4000
        · rw [if_pos (decide_eq_true h4), if_pos h4]
          rfl
        · rw [decide_eq_false h4, if_neg (by decide), if_neg h4]
          rfl
      · have hb : (e != 0) = true := by simpa using h0
        rw [if_neg h0, if_neg h0, hb, sized_j1, if_pos rfl]
        rfl
  | [], c0 :: c1 :: r =>
    have hp := hP c0 _ rfl (k + 2) (by omega)
    have h2 : ((c0 :: c1 :: r).length : Int) > 1 := by simp only [List.length_cons]; omega
    rw [if_pos (by rfl)]
    have e0 : (((c0 :: c1 :: r).length : Int) == 0) = false := by simp only [List.length_cons, beq_eq_false_iff_ne]; omega
    rw [e0]
    unfold frame_told.j0
    dsimp only
    rw [if_neg (by decide), if_pos (by rfl)]
    unfold frame_sized.f
    have hr : rdOf ByteArray.empty (c0 :: c1 :: r) 0 = c0 := rfl
    rw [if_pos (by omega), hr, hp]
    simp only [Option.bind_some]
    rw [if_pos h2]
    unfold frame_sized.j0
    dsimp only
    rw [if_pos (decide_eq_true h2)]
    rfl
  | [t], [] =>
    have ht := hs t (List.mem_cons_self)
    simp only [List.length_cons, List.length_nil, Nat.zero_add]
    rw [if_neg (by decide)]
    unfold frame_told.j0
    dsimp only
    rw [if_neg (by decide), if_neg (by simp), if_neg (by simp), if_neg (by simp)]
    show _ = some (if mi = 0 then ((0, 0, 22) : Int × Int × Int) else if Sp.lower t.data.toList = [99, 104, 117, 110, 107, 101, 100] then (3, 0, 0) else (0, 0, 22))
    by_cases h0 : mi = 0
    · rw [if_pos h0, if_pos h0, told_j1, if_pos (by simpa using h0)]
    · rw [if_neg h0, if_neg h0, if_pos (by simp)]
      have hr : rdOf ByteArray.empty [t] 0 = t := rfl
      rw [hr, lower_f ht]
      simp only [Option.bind_some]
      rw [toList_data, told_j1]
      by_cases h1 : Sp.lower t.data.toList = [99, 104, 117, 110, 107, 101, 100]
      · rw [if_pos h1]
        exact if_neg (by simpa using h1)
      · rw [if_neg h1]
        exact if_pos (by simpa using h1)
  | [t], c0 :: r =>
    rw [if_neg (by simp)]
    unfold frame_told.j0
    dsimp only
    rw [if_neg (by decide), if_neg (by simp), if_neg (by simp), if_pos (by simp only [List.length_cons]; omega), told_j1, if_pos (decide_eq_true (by simp only [List.length_cons]; omega))]
    rfl
  | t :: t1 :: r, C =>
    rw [if_neg (by simp only [List.length_cons]; omega)]
    unfold frame_told.j0
    dsimp only
    rw [if_neg (by decide), if_neg (by simp only [List.length_cons]; omega), if_pos (by simp only [List.length_cons]; omega), told_j1, if_pos (decide_eq_true (by simp only [List.length_cons]; omega))]
    rfl
theorem framed_g (P k : Nat) (a b : ByteArray) (c : Int) (d : ByteArray) (mi : Int) (fs : List S32) (T C : List ByteArray) (n e : Int) (hk : P + 5000 ≤ k)
    (hT : lockageref05_Get.f k fs (⟨#[116, 114, 97, 110, 115, 102, 101, 114, 45, 101, 110, 99, 111, 100, 105, 110, 103]⟩ : ByteArray) = some T)
    (hC : lockageref05_Get.f k fs (⟨#[99, 111, 110, 116, 101, 110, 116, 45, 108, 101, 110, 103, 116, 104]⟩ : ByteArray) = some C)
    (hs : ∀ t ∈ T, t.size ≤ 1000) (hP : ∀ c0 r, C = c0 :: r → ∀ k, P ≤ k → lockageref03_Parse.f k c0 10 = some (n, e)) :
    lockageref07_framed.f k a b c d mi fs = some (toldS T C mi n e) := by
  unfold lockageref07_framed.f
  rw [hT, hC]
  simp only [Option.bind_some]
  obtain ⟨k, rfl⟩ : ∃ j, k = j + 2 := ⟨k - 2, by omega⟩
  have j1 : lockageref07_framed.j0 (k + 2) true = some (0, 0, 22) := by unfold lockageref07_framed.j0; rfl
  have j0 : lockageref07_framed.j0 (k + 2) false = some (3, 0, 0) := by unfold lockageref07_framed.j0; rfl
  match T, C with
  | [], [] => rfl
  | [], [c0] =>
    have hp := hP c0 [] rfl (k + 2) (by omega)
    have hr : rdOf ByteArray.empty [c0] 0 = c0 := rfl
    rw [if_neg (by simp), if_pos (by simp)]
    unfold lockageref07_length.f
    rw [if_pos (by simp), if_pos (by simp), hr, hp]
    simp only [Option.bind_some]
    show _ = some (if e = 1 then ((0, 0, 22) : Int × Int × Int) else if e = 0 then (if n > 4000 then (0, 0, 2) else (2, n, 0)) else (0, 0, 2))
    by_cases h1 : e = 1
    · rw [if_pos h1, if_pos h1]
      rfl
    · rw [if_neg h1, if_neg h1]
      by_cases h0 : e = 0
      · rw [if_pos h0, if_pos h0]
        by_cases h4 : n > 4000
        · rw [if_pos h4, if_pos h4]
          rfl
        · rw [if_neg h4, if_neg h4]
          rfl
      · rw [if_neg h0, if_neg h0]
        rfl
  | [], c0 :: c1 :: r =>
    rw [if_neg (by simp), if_pos (by simp only [List.length_cons]; omega)]
    unfold lockageref07_length.f
    rw [if_neg (by simp only [List.length_cons]; omega)]
    rfl
  | [t], [] =>
    have ht := hs t (List.mem_cons_self)
    have hr : rdOf ByteArray.empty [t] 0 = t := rfl
    rw [if_pos (by simp), if_pos (by simp), if_neg (by simp)]
    show _ = some (if mi = 0 then ((0, 0, 22) : Int × Int × Int) else if Sp.lower t.data.toList = [99, 104, 117, 110, 107, 101, 100] then (3, 0, 0) else (0, 0, 22))
    by_cases h0 : mi = 0
    · rw [if_pos h0, if_pos h0, j1]
    · rw [if_neg h0, if_neg h0, if_pos (by simp), hr, Low_ev t (by omega) (k + 2) (by omega)]
      simp only [Option.bind_some]
      rw [toList_data]
      by_cases h1 : Sp.lower t.data.toList = [99, 104, 117, 110, 107, 101, 100]
      · rw [if_pos h1, h1]
        exact j0
      · rw [if_neg h1]
        have : (Sp.lower t.data.toList != ([99, 104, 117, 110, 107, 101, 100] : List UInt8)) = true := by simpa using h1
        show lockageref07_framed.j0 (k + 2) (Sp.lower t.data.toList != _) = _
        rw [this, j1]
  | [t], c0 :: r =>
    rw [if_pos (by simp), if_pos (by simp), if_pos (by simp only [List.length_cons]; omega), j1]
    rfl
  | t :: t1 :: r, C =>
    rw [if_pos (by simp only [List.length_cons]; omega), if_neg (by simp only [List.length_cons]; omega), j1]
    rfl
theorem toldS_zero (T C : List ByteArray) (mi n e : Int) : (toldS T C mi n e).1 = 0 → (toldS T C mi n e).2.1 = 0 := by
  match T, C with
  | [], [] => exact fun _ => rfl
  | [], [c0] =>
    show (if e = 1 then ((0, 0, 22) : Int × Int × Int) else if e = 0 then (if n > 4000 then (0, 0, 2) else (2, n, 0)) else (0, 0, 2)).1 = 0 → (if e = 1 then ((0, 0, 22) : Int × Int × Int) else if e = 0 then (if n > 4000 then (0, 0, 2) else (2, n, 0)) else (0, 0, 2)).2.1 = 0
    by_cases h1 : e = 1
    · rw [if_pos h1]
      exact fun _ => rfl
    · rw [if_neg h1]
      by_cases h0 : e = 0
      · rw [if_pos h0]
        by_cases h4 : n > 4000
        · rw [if_pos h4]
          exact fun _ => rfl
        · rw [if_neg h4]
          exact fun h => absurd (show (2 : Int) = 0 from h) (by decide)
      · rw [if_neg h0]
        exact fun _ => rfl
  | [], c0 :: c1 :: r => exact fun _ => rfl
  | [t], [] =>
    show (if mi = 0 then ((0, 0, 22) : Int × Int × Int) else if Sp.lower t.data.toList = [99, 104, 117, 110, 107, 101, 100] then (3, 0, 0) else (0, 0, 22)).1 = 0 → (if mi = 0 then ((0, 0, 22) : Int × Int × Int) else if Sp.lower t.data.toList = [99, 104, 117, 110, 107, 101, 100] then (3, 0, 0) else (0, 0, 22)).2.1 = 0
    by_cases h1 : mi = 0
    · rw [if_pos h1]
      exact fun _ => rfl
    · rw [if_neg h1]
      by_cases h0 : Sp.lower t.data.toList = [99, 104, 117, 110, 107, 101, 100]
      · rw [if_pos h0]
        exact fun _ => rfl
      · rw [if_neg h0]
        exact fun _ => rfl
  | [t], c0 :: r => exact fun _ => rfl
  | t :: t1 :: r, C => exact fun _ => rfl
theorem or_req (x : Int × Int × Int) (hz : x.1 = 0 → x.2.1 = 0) : ∃ y, frame_or.f x.1 x.2.1 x.2.2 1 = some y ∧ (if x.2.2 = 0 then (if x.1 = 0 then (some (1, x.2.1, x.2.2)) else (some (x.1, x.2.1, x.2.2))) else (some (x.1, x.2.1, x.2.2))) = some y := by
  obtain ⟨a, b, c⟩ := x
  simp only at hz ⊢
  unfold frame_or.f
  by_cases h : c = 0
  · rw [if_pos h, if_pos h]
    by_cases h2 : a = 0
    · rw [if_pos h2, if_pos (by simp [h2, hz h2])]
      exact ⟨_, rfl, rfl⟩
    · rw [if_neg h2, if_neg (by simp [h2])]
      exact ⟨_, rfl, rfl⟩
  · rw [if_neg h, if_neg h]
    exact ⟨_, rfl, rfl⟩
theorem ans_both (x : Int × Int × Int) (hz : x.1 = 0 → x.2.1 = 0) (f : Bool) (k : Nat) : ∃ y, frame_Answer.j0 (k + 1) x.2.2 f x.1 x.2.1 = some y ∧ (if x.2.2 = 0 then lockageref07_Answer.j0 (k + 1) f x.1 x.2.1 else some (x.1, x.2.1, x.2.2)) = some y := by
  obtain ⟨a, b, c⟩ := x
  simp only at hz ⊢
  unfold frame_Answer.j0 lockageref07_Answer.j0 frame_or.f
  dsimp only
  by_cases h : c = 0
  · subst h
    cases f with
    | true => exact ⟨_, rfl, rfl⟩
    | false =>
      by_cases h2 : a = 0
      · have h3 := hz h2
        subst h2 h3
        exact ⟨_, rfl, rfl⟩
      · refine ⟨(a, b, 0), ?_, ?_⟩
        · simp [h2]
        · simp [h2]
  · refine ⟨(a, b, c), ?_, ?_⟩
    · simp [h]
    · simp [h]
theorem Right_gen (B : Nat) (hB : B ≤ 140737488355328) (m t s : ByteArray) (st mi : Int) (fs : List S32) (hm : m.size ≤ B) (ht : t.size ≤ B) (hs : s.size ≤ B) (hl : fs.length < 4398046511104) (hf : ∀ x ∈ fs, x.f0.size ≤ B ∧ x.f1.size ≤ B) (b : Bool) (k : Nat) (hk : fs.length + 4 * B + 100 ≤ k) :
    ∃ r, head_Right.f k m t st s mi fs b = some r ∧ lockageref06_Right.f k m t st s mi fs b = some r := by
  obtain ⟨k, rfl⟩ : ∃ j, k = j + 1 := ⟨k - 1, by omega⟩
  have hsm : smallF fs = true := by
    unfold smallF
    rw [List.all_eq_true]
    intro x hx
    have := hf x hx
    simp only [Bool.and_eq_true, decide_eq_true_eq]
    omega
  have jt : ∀ a, lockageref06_Right.j0 (k + 1) a true m t st s mi fs = some false := fun a => by unfold lockageref06_Right.j0; rfl
  have jf : ∀ a, lockageref06_Right.j0 (k + 1) a false m t st s mi fs = (if a = true then (if m.toList = ([] : List UInt8) then (if t.toList = ([] : List UInt8) then (if st ≥ 100 then (if st ≤ 599 then ((lockageref06_reason.f k s).bind fun t212 => (some t212)) else (some false)) else (some false)) else (some false)) else (some false)) else ((lockageref05_Name.f k m).bind fun t213 => (if t213 = true then ((lockageref06_target.f k t).bind fun t214 => (if t214 = true then (if st = 0 then (some (s.toList == ([] : List UInt8))) else (some false)) else (some false))) else (some false)))) := fun a => by unfold lockageref06_Right.j0; rfl
  unfold head_Right.f lockageref06_Right.f
  rw [if_pos hsm]
  by_cases c1 : mi < 0
  · rw [if_pos c1, if_pos c1, jt]
    exact ⟨_, rfl, rfl⟩
  rw [if_neg c1, if_neg c1]
  by_cases c2 : mi > 1
  · rw [if_pos c2, if_pos c2, jt]
    exact ⟨_, rfl, rfl⟩
  rw [if_neg c2, if_neg c2, Rfields_ev B (by omega) fs hl hf (k + 1) (by omega)]
  simp only [Option.bind_some]
  by_cases c3 : (fs.length : Int) > 20
  · rw [if_pos c3, decide_eq_false (by omega : ¬ fs.length ≤ 20), Bool.and_false, Bool.not_false, jt]
    exact ⟨_, rfl, rfl⟩
  rw [if_neg c3, decide_eq_true (by omega : fs.length ≤ 20), Bool.and_true, Bool.not_not]
  cases fs.any badF with
  | true =>
    rw [if_pos rfl, jt]
    exact ⟨_, rfl, rfl⟩
  | false =>
    rw [if_neg (by decide), jf]
    cases b with
    | true =>
      rw [if_pos rfl, if_pos rfl, if_pos (by omega)]
      have ha : ((m ++ t).toList = ([] : List UInt8)) ↔ (m.toList = ([] : List UInt8) ∧ t.toList = ([] : List UInt8)) := by
        rw [toList_data, toList_data, toList_data, ByteArray.data_append]
        simp
      by_cases d1 : m.toList = ([] : List UInt8)
      · by_cases d2 : t.toList = ([] : List UInt8)
        · rw [if_pos (ha.2 ⟨d1, d2⟩), if_pos d1, if_pos d2]
          unfold head_status.f
          by_cases d3 : st ≥ 100
          · rw [if_pos d3, if_pos d3]
            simp only [Option.bind_some]
            by_cases d4 : st ≤ 599
            · rw [if_pos (decide_eq_true d4), if_pos d4, reason_ev s (by omega) (k + 1) (by omega), Rreason_ev s (by omega) k (by omega)]
              exact ⟨_, rfl, rfl⟩
            · rw [if_neg (by simpa using d4), if_neg d4]
              exact ⟨_, rfl, rfl⟩
          · rw [if_neg d3, if_neg d3]
            exact ⟨_, rfl, rfl⟩
        · rw [if_neg (fun e => d2 (ha.1 e).2), if_pos d1, if_neg d2]
          exact ⟨_, rfl, rfl⟩
      · rw [if_neg (fun e => d1 (ha.1 e).1), if_neg d1]
        exact ⟨_, rfl, rfl⟩
    | false =>
      simp only [Bool.false_eq_true, if_false]
      rw [name_f (by omega), RefName_ev m (by omega) k (by omega)]
      simp only [Option.bind_some]
      cases Sp.nameB m.data.toList with
      | false => exact ⟨_, rfl, rfl⟩
      | true =>
        rw [if_pos rfl, if_pos rfl, target_ev t (by omega) (k + 1) (by omega), Rtarget_ev t (by omega) k (by omega)]
        simp only [Option.bind_some]
        cases targetS t.data.toList with
        | false => exact ⟨_, rfl, rfl⟩
        | true =>
          by_cases d : st = 0
          · exact ⟨_, if_pos d, if_pos d⟩
          · exact ⟨_, if_neg d, if_neg d⟩
theorem getS_of {l : List S32} (a : ByteArray) : ∀ v ∈ getS l a, ∃ x ∈ l, v = x.f1 := by
  intro v hv
  unfold getS at hv
  obtain ⟨x, hx, rfl⟩ := List.mem_map.1 hv
  exact ⟨x, (List.mem_filter.1 hx).1, rfl⟩
/-- Of any head whose texts are short. -/
theorem same_gen (m t s : ByteArray) (st mi : Int) (fs : List S32) (hm : m.size ≤ 1000) (ht : t.size ≤ 1000) (hs : s.size ≤ 1000) (hlen : fs.length ≤ 100) (hf : ∀ x ∈ fs, x.f0.size ≤ 1000 ∧ x.f1.size ≤ 1000) (meth : ByteArray) (k : Nat) (hk : 1000000 ≤ k) :
    lockagelaw07_same.f k m t st s mi fs meth = some true := by
  obtain ⟨k, rfl⟩ : ∃ j, k = j + 1 := ⟨k - 1, by omega⟩
  have hR := fun b => Right_gen 1000 (by decide) m t s st mi fs hm ht hs (by omega) hf b (k + 1) (by omega)
  have G := fun (q : ByteArray) (hq : q.size ≤ 100) => field_Get_ev fs q (by omega) (by omega) (fun x hx => by have := hf x hx; omega) (k + 1) (by omega)
  have RG := fun (q : ByteArray) (hq : q.size ≤ 100) => RefGet_ev 1000 (by decide) fs q (by omega) (by omega) (fun x hx => (hf x hx).1) (k + 1) (by omega)
  obtain ⟨T, hT⟩ : ∃ T, T = getS fs (⟨#[116, 114, 97, 110, 115, 102, 101, 114, 45, 101, 110, 99, 111, 100, 105, 110, 103]⟩ : ByteArray) := ⟨_, rfl⟩
  obtain ⟨C, hC⟩ : ∃ C, C = getS fs (⟨#[99, 111, 110, 116, 101, 110, 116, 45, 108, 101, 110, 103, 116, 104]⟩ : ByteArray) := ⟨_, rfl⟩
  obtain ⟨V, hV⟩ : ∃ V, V = getS fs (⟨#[99, 111, 110, 110, 101, 99, 116, 105, 111, 110]⟩ : ByteArray) := ⟨_, rfl⟩
  have eT : getS fs (⟨#[84, 114, 97, 110, 115, 102, 101, 114, 45, 69, 110, 99, 111, 100, 105, 110, 103]⟩ : ByteArray) = T := by rw [hT]; exact getS_congr _ (by decide)
  have eC : getS fs (⟨#[67, 111, 110, 116, 101, 110, 116, 45, 76, 101, 110, 103, 116, 104]⟩ : ByteArray) = C := by rw [hC]; exact getS_congr _ (by decide)
  have eV : getS fs (⟨#[67, 111, 110, 110, 101, 99, 116, 105, 111, 110]⟩ : ByteArray) = V := by rw [hV]; exact getS_congr _ (by decide)
  have gT := G (⟨#[84, 114, 97, 110, 115, 102, 101, 114, 45, 69, 110, 99, 111, 100, 105, 110, 103]⟩ : ByteArray) (by decide)
  have gC := G (⟨#[67, 111, 110, 116, 101, 110, 116, 45, 76, 101, 110, 103, 116, 104]⟩ : ByteArray) (by decide)
  have gV := G (⟨#[67, 111, 110, 110, 101, 99, 116, 105, 111, 110]⟩ : ByteArray) (by decide)
  have rT := RG (⟨#[116, 114, 97, 110, 115, 102, 101, 114, 45, 101, 110, 99, 111, 100, 105, 110, 103]⟩ : ByteArray) (by decide)
  have rC := RG (⟨#[99, 111, 110, 116, 101, 110, 116, 45, 108, 101, 110, 103, 116, 104]⟩ : ByteArray) (by decide)
  have rV := RG (⟨#[99, 111, 110, 110, 101, 99, 116, 105, 111, 110]⟩ : ByteArray) (by decide)
  rw [eT] at gT
  rw [eC] at gC
  rw [eV] at gV
  rw [← hT] at rT
  rw [← hC] at rC
  rw [← hV] at rV
  have mT : ∀ v ∈ T, v.size ≤ 1000 := by rw [hT]; intro v hv; obtain ⟨x, hx, rfl⟩ := getS_of _ v hv; exact (hf x hx).2
  have mC : ∀ v ∈ C, v.size ≤ 1000 := by rw [hC]; intro v hv; obtain ⟨x, hx, rfl⟩ := getS_of _ v hv; exact (hf x hx).2
  have mV : ∀ v ∈ V, v.size ≤ 1000 := by rw [hV]; intro v hv; obtain ⟨x, hx, rfl⟩ := getS_of _ v hv; exact (hf x hx).2
  have lV : V.length ≤ 100 := by rw [hV]; exact Nat.le_trans (getS_length _ _) hlen
  obtain ⟨n, e, hP1, hP2⟩ : ∃ n e : Int, (∀ c0 r, C = c0 :: r → ∀ k, 10000 ≤ k → num_Parse.f k c0 10 = some (n, e)) ∧ (∀ c0 r, C = c0 :: r → ∀ k, 10000 ≤ k → lockageref03_Parse.f k c0 10 = some (n, e)) := by
    cases C with
    | nil => exact ⟨0, 0, (fun c0 r h => nomatch h), (fun c0 r h => nomatch h)⟩
    | cons c0 r =>
      have hc := mC c0 (List.mem_cons_self)
      exact ⟨(parseS c0.data.toList).1, (parseS c0.data.toList).2, (fun c0' r' h => by injection h with h _; subst h; exact fun k hk => Parse_ev _ (by omega) k (by omega)), (fun c0' r' h => by injection h with h _; subst h; exact fun k hk => RefParse_ev _ (by omega) k (by omega))⟩
  have told := told_g 10000 (k + 1) m t st s mi fs T C n e (by omega) gT gC (fun v hv => by have := mT v hv; omega) hP1
  have framed := framed_g 10000 (k + 1) m t st s mi fs T C n e (by omega) rT rC mT hP2
  have hz := toldS_zero T C mi n e
  generalize toldS T C mi n e = X at told framed hz
  have hS := Stays_ev V mV lV m t st s mi fs (k + 1) (by omega) gV
  have hS2 := RStays_ev V 5000 (fun v hv => ⟨mV v hv, fun k hk => RefItems_ev v (by have := mV v hv; omega) k (by have := mV v hv; omega)⟩) lV m t st s mi fs (k + 1) (by omega) rV
  have hq : ∃ y, frame_Request.f (k + 1) m t st s mi fs = some y ∧ lockageref07_Request.f (k + 1) m t st s mi fs = some y := by
    obtain ⟨r, r1, r2⟩ := hR false
    unfold frame_Request.f lockageref07_Request.f
    rw [r1, r2]
    simp only [Option.bind_some]
    cases r with
    | false => exact ⟨_, rfl, rfl⟩
    | true =>
      rw [if_pos rfl, if_pos rfl, told, framed]
      simp only [Option.bind_some]
      obtain ⟨y, h1, h2⟩ := or_req X hz
      rw [h1]
      exact ⟨y, rfl, h2⟩
  have ha : ∃ y, frame_Answer.f (k + 1) m t st s mi fs meth = some y ∧ lockageref07_Answer.f (k + 1) m t st s mi fs meth = some y := by
    obtain ⟨r, r1, r2⟩ := hR true
    unfold frame_Answer.f lockageref07_Answer.f
    rw [r1, r2]
    simp only [Option.bind_some]
    cases r with
    | false => exact ⟨_, rfl, rfl⟩
    | true =>
      rw [if_pos rfl, if_pos rfl, told, framed]
      simp only [Option.bind_some]
      by_cases c1 : meth.toList = ([72, 69, 65, 68] : List UInt8)
      · rw [if_pos c1, if_pos c1]
        exact ans_both X hz true k
      · rw [if_neg c1, if_neg c1]
        by_cases c2 : st < 200
        · rw [if_pos c2, if_pos c2]
          exact ans_both X hz true k
        · rw [if_neg c2, if_neg c2]
          by_cases c3 : st = 204
          · rw [if_pos c3, if_pos c3]
            exact ans_both X hz true k
          · rw [if_neg c3, if_neg c3]
            exact ans_both X hz _ k
  obtain ⟨y, q1, q2⟩ := hq
  obtain ⟨z, a1, a2⟩ := ha
  unfold lockagelaw07_same.f
  rw [q1, q2, a1, a2, hS, hS2]
  simp
end Go.Proofs.YtljppmpigijgaaaDoor.P
namespace Go.Proofs.YtljppmpigijgaaaDoor.P
open Go.RowKit Go.Shelf Go.Lib Go.Proofs.YtljppmpigijgaaaDoorW.PrintWords Go.Proofs.YtljppmpigijgaaaDoorW.PrintLast Go.Proofs.YtljppmpigijgaaaDoorW.PrintMore
open H (ret_bool ret_int)
set_option maxHeartbeats 1600000 in
set_option maxRecDepth 100000 in
theorem head_any (A : Option Addr) (n c : Nat) (w : World) :
    Calls Tryd.prog 11 #[.slice A n c] w fun e w' => e = .returned (.agg #[.string (⟨#[80, 79, 83, 84]⟩ : ByteArray), .string (⟨#[47]⟩ : ByteArray), .int .i64 0, .string (⟨#[]⟩ : ByteArray), .int .i64 1, .slice A n c]) ∧ Below w.heap.size w w' := by
  go_enter Tryd.func11, Tryd.ntmps11
  go_wp2_with (first
    | ((with_reducible refine gate_dst (N := 2) rfl ?_); refine box_event ?hg (N := 2) ?hd (cs := #[.string (⟨#[]⟩ : ByteArray), .string (⟨#[]⟩ : ByteArray), .int .i64 0, .string (⟨#[]⟩ : ByteArray), .int .i64 0, .slice none 0 0]) (t := 25) ?hr ?_; (case hd => rfl); (case hg => rfl); (case hr => first | (go_simp; done) | (go_simp; rfl)); intro g hg w2 hbox hb; have BK := Lib.hid hbox; have HB2 := Lib.hid hb; have HG := Lib.hid hg; clear hbox hb hg; have hcz0 := (blk_cell BK.out 0).trans rfl; have hcz1 := (blk_cell BK.out 1).trans rfl; have hcz2 := (blk_cell BK.out 2).trans rfl; have hcz3 := (blk_cell BK.out 3).trans rfl; have hcz4 := (blk_cell BK.out 4).trans rfl; have hcz5 := (blk_cell BK.out 5).trans rfl; have hfz0 := blk_frozen BK.out 0; have hfz1 := blk_frozen BK.out 1; have hfz2 := blk_frozen BK.out 2; have hfz3 := blk_frozen BK.out 3; have hfz4 := blk_frozen BK.out 4; have hfz5 := blk_frozen BK.out 5))
  have hge0 : w.heap.size ≤ g := by rw [HG.out]; exact Nat.le_refl _
  refine bodyPost_ret (results_cell_row rfl _ _ g 25 #[.string (⟨#[80, 79, 83, 84]⟩ : ByteArray), .string (⟨#[47]⟩ : ByteArray), .int .i64 0, .string (⟨#[]⟩ : ByteArray), .int .i64 1, .slice A n c] (0, 0) _ rfl (by (with_reducible repeat (first | refine blk_drewN ?_ _ | refine blk_drew ?_ | refine blk_alloc ?_ _)); refine blk_put (cs := #[.string (⟨#[80, 79, 83, 84]⟩ : ByteArray), .string (⟨#[47]⟩ : ByteArray), .int .i64 0, .string (⟨#[]⟩ : ByteArray), .int .i64 1, .slice none 0 0]) ?_ 5 _ rfl; (with_reducible repeat (first | refine blk_drewN ?_ _ | refine blk_drew ?_ | refine blk_alloc ?_ _)); refine blk_put (cs := #[.string (⟨#[80, 79, 83, 84]⟩ : ByteArray), .string (⟨#[47]⟩ : ByteArray), .int .i64 0, .string (⟨#[]⟩ : ByteArray), .int .i64 0, .slice none 0 0]) ?_ 4 _ rfl; (with_reducible repeat (first | refine blk_drewN ?_ _ | refine blk_drew ?_ | refine blk_alloc ?_ _)); refine blk_put (cs := #[.string (⟨#[80, 79, 83, 84]⟩ : ByteArray), .string (⟨#[47]⟩ : ByteArray), .int .i64 0, .string (⟨#[]⟩ : ByteArray), .int .i64 0, .slice none 0 0]) ?_ 3 _ rfl; (with_reducible repeat (first | refine blk_drewN ?_ _ | refine blk_drew ?_ | refine blk_alloc ?_ _)); refine blk_put (cs := #[.string (⟨#[80, 79, 83, 84]⟩ : ByteArray), .string (⟨#[47]⟩ : ByteArray), .int .i64 0, .string (⟨#[]⟩ : ByteArray), .int .i64 0, .slice none 0 0]) ?_ 2 _ rfl; (with_reducible repeat (first | refine blk_drewN ?_ _ | refine blk_drew ?_ | refine blk_alloc ?_ _)); refine blk_put (cs := #[.string (⟨#[80, 79, 83, 84]⟩ : ByteArray), .string (⟨#[]⟩ : ByteArray), .int .i64 0, .string (⟨#[]⟩ : ByteArray), .int .i64 0, .slice none 0 0]) ?_ 1 _ rfl; (with_reducible repeat (first | refine blk_drewN ?_ _ | refine blk_drew ?_ | refine blk_alloc ?_ _)); refine blk_put (cs := #[.string (⟨#[]⟩ : ByteArray), .string (⟨#[]⟩ : ByteArray), .int .i64 0, .string (⟨#[]⟩ : ByteArray), .int .i64 0, .slice none 0 0]) ?_ 0 _ rfl; (with_reducible repeat (first | refine blk_drewN ?_ _ | refine blk_drew ?_ | refine blk_alloc ?_ _)); exact BK.out) Tryd.underlying25 rfl (by kernel_rfl)) rfl ?_
  refine ⟨rfl, ?_⟩
  repeat (with_reducible first | exact HB2.out | apply pw_below_drewN | apply below_drew1 | refine below_set ?_ hge0)
/-- How many bytes fields have. -/
def sumF (l : List S32) : Nat := (l.map fun x => x.f0.size + x.f1.size).sum
theorem sumF_take (l : List S32) (k : Nat) (h : k < l.length) : sumF (l.take (k + 1)) = sumF (l.take k) + ((l.getD k z32).f0.size + (l.getD k z32).f1.size) := by
  unfold sumF
  rw [List.take_succ_eq_append_getElem h, List.map_append, List.sum_append, List.getD_eq_getElem?_getD, List.getElem?_eq_getElem h]
  simp
theorem sumF_mem {x : S32} : ∀ {l : List S32}, x ∈ l → x.f0.size + x.f1.size ≤ sumF l
  | y :: l, h => by
    have e : sumF (y :: l) = (y.f0.size + y.f1.size) + sumF l := by unfold sumF; rw [List.map_cons, List.sum_cons]
    rw [e]
    rcases List.mem_cons.1 h with rfl | h
    · omega
    · have := sumF_mem h
      omega
set_option maxHeartbeats 3200000 in
set_option maxRecDepth 100000 in
theorem FrameFields_any (k : Nat) (A : Option Addr) (c : Nat) (fs : List S32) (st mi : Int) (meth : ByteArray) (w : World) (hr : Kd.C k32 w A fs.length fs) (hc : fs.length ≤ c) (hs : ∀ x ∈ fs, x.f0.size ≤ 140737488351232 ∧ x.f1.size ≤ 140737488351232)
    (hA : lockagelaw07_awake.f k = some true) (hS1 : fs.length ≤ 25 → sumF fs ≤ 800 → lockagelaw07_same.f k ⟨#[80, 79, 83, 84]⟩ ⟨#[47]⟩ 0 ⟨#[]⟩ mi fs meth = some true) (hS2 : fs.length ≤ 25 → sumF fs ≤ 800 → lockagelaw07_same.f k ⟨#[]⟩ ⟨#[]⟩ st ⟨#[]⟩ mi fs meth = some true) :
    Calls Tryd.prog 4 #[.slice A fs.length c, .int .i64 st, .int .i64 mi, .string meth] w fun e w' => e = .returned (.bool true) ∧ Below w.heap.size w w' := by
  have HR := Lib.hid hr
  have HC := Lib.hid hc
  have HS := Lib.hid hs
  have HS1 := Lib.hid hS1
  have HS2 := Lib.hid hS2
  have KA := fun W => Lib.hid (lockagelaw07_awake.calls k true W hA)
  have hn : fs.length ≤ 9223372036854775807 := hr.2.1
  clear hr hc hs hS1 hS2 hA
  go_enter Tryd.func4, Tryd.ntmps4
  go_wp2
  go_loopw [9, 10] (fun n i wr => ∃ q j : Nat, j ≤ fs.length ∧ n = .int .i64 q ∧ i = .int .i64 j ∧ Hid (q = sumF (fs.take j)) ∧ Hid (q ≤ 281474976703264) ∧ Hid (Below w.heap.size w wr)) (fun _ i _ => fs.length - (RowKit.intOf i).toNat)
  case atStart => exact ⟨0, 0, Nat.zero_le _, rfl, rfl, Lib.hid rfl, Lib.hid (Nat.zero_le _), Lib.hid (Below.refl _ _)⟩
  case round =>
    obtain ⟨q, j, hj, rfl, rfl, hq, hq2, hB⟩ := hrel
    by_cases hlt : j < fs.length
    · by_cases hq8 : q ≤ 800
      · obtain ⟨ad, rfl, hx0, hx1⟩ := at_T32 HR.out (j : Int) (by omega) (by omega)
        replace hx0 := (hB.out.cell (World.block_lt_of_cell? w _ hx0)).trans hx0
        replace hx1 := (hB.out.cell (World.block_lt_of_cell? w _ hx1)).trans hx1
        rw [Int.toNat_natCast] at hx0 hx1
        have hx : rd_T32 fs (j : Int) = fs.getD j z32 := by simp [rd_T32]
        rw [hx] at hx0 hx1
        clear hx
        have hsum := Lib.hid (sumF_take fs j hlt)
        have hsz : (fs.getD j z32).f0.size ≤ 140737488351232 ∧ (fs.getD j z32).f1.size ≤ 140737488351232 := by
          rw [List.getD_eq_getElem?_getD, List.getElem?_eq_getElem hlt]
          exact HS.out _ (List.getElem_mem hlt)
        obtain ⟨x, hx⟩ : ∃ x, x = fs.getD j z32 := ⟨_, rfl⟩
        rw [← hx] at hx0 hx1 hsz
        have HX := Lib.hid hx
        clear hx
        have hq8' : decide ((q : Int) ≤ 800) = true := decide_eq_true (by omega)
        have e1 : wrap64 ((q : Int) + (x.f0.size : Int)) = ((q + x.f0.size : Nat) : Int) := by unfold wrap64; omega
        have e2 : wrap64 (((q + x.f0.size : Nat) : Int) + (x.f1.size : Int)) = ((q + x.f0.size + x.f1.size : Nat) : Int) := by unfold wrap64; omega
        have E1 := Lib.hid e1
        have E2 := Lib.hid e2
        clear e1 e2
        go_wp2_with fail
        go_quiet (fail)
        go_wp2_with fail
        refine ⟨⟨q + x.f0.size + x.f1.size, j + 1, by omega, by go_num, by go_num, Lib.hid ?_, Lib.hid (by omega), Lib.hid (by repeat (first | exact hB.out | apply pw_below_drewN))⟩, by simp [RowKit.intOf]; omega⟩
        rw [hsum.out, ← HX.out, ← hq.out]
        omega
      · have hq8' : decide ((q : Int) ≤ 800) = false := decide_eq_false (by omega)
        have hq9 : decide ((q : Int) > 800) = true := decide_eq_true (by omega)
        have hB' := hB.out
        by_cases h25 : (fs.length : Int) > 25
        · have d25 : decide ((fs.length : Int) > 25) = true := decide_eq_true h25
          go_wp2_with fail
          refine (KA _).out.mono ?_; rintro e w' ⟨rfl, hB2⟩
          go_wp2_with fail
          go_ret
          exact ⟨rfl, hB'.trans (hB2.mono hB'.size)⟩
        · have d25 : decide ((fs.length : Int) > 25) = false := decide_eq_false h25
          go_wp2_with fail
          refine (KA _).out.mono ?_; rintro e w' ⟨rfl, hB2⟩
          go_wp2_with fail
          go_ret
          exact ⟨rfl, hB'.trans (hB2.mono hB'.size)⟩
    · obtain rfl : j = fs.length := by omega
      have hB' := hB.out
      have hq3 : q = sumF fs := by rw [hq.out, List.take_length]
      by_cases h25 : (fs.length : Int) > 25
      · have d25 : decide ((fs.length : Int) > 25) = true := decide_eq_true h25
        go_wp2_with fail
        refine (KA _).out.mono ?_; rintro e w' ⟨rfl, hB2⟩
        go_wp2_with fail
        go_ret
        exact ⟨rfl, hB'.trans (hB2.mono hB'.size)⟩
      · have d25 : decide ((fs.length : Int) > 25) = false := decide_eq_false h25
        by_cases h8 : (q : Int) > 800
        · have hq9 : decide ((q : Int) > 800) = true := decide_eq_true h8
          go_wp2_with fail
          refine (KA _).out.mono ?_; rintro e w' ⟨rfl, hB2⟩
          go_wp2_with fail
          go_ret
          exact ⟨rfl, hB'.trans (hB2.mono hB'.size)⟩
        · have hq9 : decide ((q : Int) > 800) = false := decide_eq_false h8
          go_wp2_with fail
          refine (head_any A fs.length c _).mono ?_; rintro e w1 ⟨rfl, hB1⟩
          have hBa := Lib.hid (hB'.trans (hB1.mono hB'.size))
          clear hB1
          go_wp2_with (first
            | ((with_reducible refine gate_dst (N := 11) rfl ?_); refine box_event ?hg (N := 11) ?hd (cs := #[.string (⟨#[]⟩ : ByteArray), .string (⟨#[]⟩ : ByteArray), .int .i64 0, .string (⟨#[]⟩ : ByteArray), .int .i64 0, .slice none 0 0]) (t := 25) ?hr ?_; (case hd => rfl); (case hg => rfl); (case hr => first | (go_simp; done) | (go_simp; rfl)); intro g hg w2 hbox hb; have BK := Lib.hid hbox; have HB2 := Lib.hid hb; have HG := Lib.hid hg; clear hbox hb hg; have hcz0 := (blk_cell BK.out 0).trans rfl; have hcz1 := (blk_cell BK.out 1).trans rfl; have hcz2 := (blk_cell BK.out 2).trans rfl; have hcz3 := (blk_cell BK.out 3).trans rfl; have hcz4 := (blk_cell BK.out 4).trans rfl; have hcz5 := (blk_cell BK.out 5).trans rfl; have hfz0 := blk_frozen BK.out 0; have hfz1 := blk_frozen BK.out 1; have hfz2 := blk_frozen BK.out 2; have hfz3 := blk_frozen BK.out 3; have hfz4 := blk_frozen BK.out 4; have hfz5 := blk_frozen BK.out 5))
          have hge0 : w.heap.size ≤ g := by rw [HG.out]; exact hBa.out.size
          have hBb := Lib.hid (hBa.out.trans (HB2.out.mono hBa.out.size))
          refine (KA _).out.mono ?_; rintro e w5 ⟨rfl, hB5⟩
          have BK5 := Lib.hid (blk_below (o := .cells #[.string (⟨#[80, 79, 83, 84]⟩ : ByteArray), .string (⟨#[47]⟩ : ByteArray), .int .i64 0, .string (⟨#[]⟩ : ByteArray), .int .i64 mi, .slice A fs.length c] 25 (0, 0)) (by (with_reducible repeat (first | refine blk_drewN ?_ _ | refine blk_drew ?_ | refine blk_alloc ?_ _)); refine blk_put (cs := #[.string (⟨#[80, 79, 83, 84]⟩ : ByteArray), .string (⟨#[47]⟩ : ByteArray), .int .i64 0, .string (⟨#[]⟩ : ByteArray), .int .i64 1, .slice A fs.length c]) ?_ 4 _ rfl; (with_reducible repeat (first | refine blk_drewN ?_ _ | refine blk_drew ?_ | refine blk_alloc ?_ _)); refine blk_put (cs := #[.string (⟨#[80, 79, 83, 84]⟩ : ByteArray), .string (⟨#[47]⟩ : ByteArray), .int .i64 0, .string (⟨#[]⟩ : ByteArray), .int .i64 1, .slice none 0 0]) ?_ 5 _ rfl; (with_reducible repeat (first | refine blk_drewN ?_ _ | refine blk_drew ?_ | refine blk_alloc ?_ _)); refine blk_put (cs := #[.string (⟨#[80, 79, 83, 84]⟩ : ByteArray), .string (⟨#[47]⟩ : ByteArray), .int .i64 0, .string (⟨#[]⟩ : ByteArray), .int .i64 0, .slice none 0 0]) ?_ 4 _ rfl; (with_reducible repeat (first | refine blk_drewN ?_ _ | refine blk_drew ?_ | refine blk_alloc ?_ _)); refine blk_put (cs := #[.string (⟨#[80, 79, 83, 84]⟩ : ByteArray), .string (⟨#[47]⟩ : ByteArray), .int .i64 0, .string (⟨#[]⟩ : ByteArray), .int .i64 0, .slice none 0 0]) ?_ 3 _ rfl; (with_reducible repeat (first | refine blk_drewN ?_ _ | refine blk_drew ?_ | refine blk_alloc ?_ _)); refine blk_put (cs := #[.string (⟨#[80, 79, 83, 84]⟩ : ByteArray), .string (⟨#[47]⟩ : ByteArray), .int .i64 0, .string (⟨#[]⟩ : ByteArray), .int .i64 0, .slice none 0 0]) ?_ 2 _ rfl; (with_reducible repeat (first | refine blk_drewN ?_ _ | refine blk_drew ?_ | refine blk_alloc ?_ _)); refine blk_put (cs := #[.string (⟨#[80, 79, 83, 84]⟩ : ByteArray), .string (⟨#[]⟩ : ByteArray), .int .i64 0, .string (⟨#[]⟩ : ByteArray), .int .i64 0, .slice none 0 0]) ?_ 1 _ rfl; (with_reducible repeat (first | refine blk_drewN ?_ _ | refine blk_drew ?_ | refine blk_alloc ?_ _)); refine blk_put (cs := #[.string (⟨#[]⟩ : ByteArray), .string (⟨#[]⟩ : ByteArray), .int .i64 0, .string (⟨#[]⟩ : ByteArray), .int .i64 0, .slice none 0 0]) ?_ 0 _ rfl; (with_reducible repeat (first | refine blk_drewN ?_ _ | refine blk_drew ?_ | refine blk_alloc ?_ _)); exact BK.out) hB5)
          have hBc := Lib.hid (show Below w.heap.size w w5 from Below.trans (by repeat (with_reducible first | exact hBb.out | apply pw_below_drewN | apply below_drew1 | refine below_set ?_ hge0)) (hB5.mono (below_size (by repeat (with_reducible first | exact hBb.out | apply pw_below_drewN | apply below_drew1 | refine below_set ?_ hge0)))))
          clear hB5
          have hcy0 := (blk_cell BK5.out 0).trans rfl
          have hcy1 := (blk_cell BK5.out 1).trans rfl
          have hcy2 := (blk_cell BK5.out 2).trans rfl
          have hcy3 := (blk_cell BK5.out 3).trans rfl
          have hcy4 := (blk_cell BK5.out 4).trans rfl
          have hcy5 := (blk_cell BK5.out 5).trans rfl
          go_wp2_with fail
          refine (lockagelaw07_same.calls k _ _ _ _ _ A c fs meth true w5 (Kd.C_below HR.out hBc.out) HC.out (HS1.out (by omega) (by omega))).mono ?_; rintro e w6 ⟨rfl, hB6⟩
          have hBd := Lib.hid (hBc.out.trans (hB6.mono hBc.out.size))
          clear hB6
          go_wp2_with fail
          refine (lockagelaw07_same.calls k _ _ _ _ _ A c fs meth true w6 (Kd.C_below HR.out hBd.out) HC.out (HS2.out (by omega) (by omega))).mono ?_; rintro e w7 ⟨rfl, hB7⟩
          go_wp2_with fail
          go_ret
          exact ⟨rfl, hBd.out.trans (hB7.mono hBd.out.size)⟩
end Go.Proofs.YtljppmpigijgaaaDoor.P
namespace Go.Proofs.YtljppmpigijgaaaDoor.P
open Go.RowKit Go.Proofs.YtljppmpigijgaaaDoorW.PrintWords Go.Proofs.YtljppmpigijgaaaDoorW.PrintLast Go.Proofs.YtljppmpigijgaaaDoorW.PrintMore
set_option maxRecDepth 100000 in
theorem awakeF_at (k : Nat) (hk : 300 ≤ k) : lockagelaw07_awake.f k = some true := at_rounds lockagelaw07_awake.mono hk (by kernel_rfl)
theorem FrameFields_walk (A : Option Addr) (c : Nat) (fs : List S32) (st mi : Int) (meth : ByteArray) (w : World) (hr : Kd.C k32 w A fs.length fs) (hc : fs.length ≤ c) (hs : ∀ x ∈ fs, x.f0.size ≤ reachBytes ∧ x.f1.size ≤ reachBytes) :
    Calls Tryd.prog 4 #[.slice A fs.length c, .int .i64 st, .int .i64 mi, .string meth] w fun e w' => e = .returned (.bool true) ∧ Below w.heap.size w w' := by
  have hR : reachBytes = 140737488351232 := by decide
  rw [hR] at hs
  obtain ⟨K, hK⟩ : ∃ K : Nat, 1000000 ≤ K := ⟨_, Nat.le_refl _⟩
  have short : sumF fs ≤ 800 → ∀ x ∈ fs, x.f0.size ≤ 1000 ∧ x.f1.size ≤ 1000 := fun h x hx => by
    have := sumF_mem hx
    omega
  refine FrameFields_any K A c fs st mi meth w hr hc hs (awakeF_at K (by omega)) (fun h1 h2 => ?_) (fun h1 h2 => ?_)
  · exact same_gen _ _ _ 0 mi fs (by decide) (by decide) (by decide) (by omega) (short h2) meth K hK
  · exact same_gen _ _ _ st mi fs (by decide) (by decide) (by decide) (by omega) (short h2) meth K hK
end Go.Proofs.YtljppmpigijgaaaDoor.P
