/- The law FrameStays in plain Lean: what its parts come to, and that it answers true. -/
import Derived.Test.YtljppmpigijgaaaDoorHA
import Derived.Test.YtljppmpigijgaaaDoorHZ
import Derived.Test.YtljppmpigijgaaaDoorHN
import Derived.Test.YtljppmpigijgaaaDoorPx3
import Derived.Lib.LazyBuf
import Derived.Test.YtljppmpigijgaaaDoorPx7
import Derived.Test.YtljppmpigijgaaaDoorHK
import Derived.Test.YtljppmpigijgaaaDoorHG
import Derived.OpenShut
import Derived.Test.YtljppmpigijgaaaDoorPx2
import Derived.Test.YtljppmpigijgaaaDoorHI
import Derived.Test.YtljppmpigijgaaaDoorPx6
import Derived.Test.YtljppmpigijgaaaDoorPx5
import Derived.Test.YtljppmpigijgaaaDoorPx9
namespace Go.Proofs.YtljppmpigijgaaaDoor.Sp
theorem lowC_idem (c : UInt8) : lowC (lowC c) = lowC c := by
  unfold lowC
  by_cases h : 65 ≤ c ∧ c ≤ 90
  · have h1 : (decide (65 ≤ c) && decide (c ≤ 90)) = true := by simp [h]
    have h2 : ¬ (65 ≤ c + 32 ∧ c + 32 ≤ 90) := by
      obtain ⟨a, b⟩ := h
      rw [UInt8.le_iff_toNat_le] at a b
      rw [UInt8.le_iff_toNat_le, UInt8.le_iff_toNat_le, UInt8.toNat_add]
      simp at a b ⊢
      omega
    simp only [h1, if_true]
    rw [if_neg (by simpa using h2)]
  · have h1 : (decide (65 ≤ c) && decide (c ≤ 90)) = false := by simpa using h
    simp only [h1, Bool.false_eq_true, if_false]
theorem lower_idem (l : List UInt8) : lower (lower l) = lower l := by
  unfold lower
  rw [List.map_map]
  exact List.map_congr_left fun c _ => lowC_idem c
theorem lower_length (l : List UInt8) : (lower l).length = l.length := by unfold lower; rw [List.length_map]

theorem dropWhile_last {p : UInt8 → Bool} : ∀ {l : List UInt8} {b : UInt8}, (l.dropWhile p).getLast? = some b → l.getLast? = some b
  | [], _, h => by simp at h
  | c :: l, b, h => by
    rw [List.dropWhile_cons] at h
    split at h
    · have := dropWhile_last h
      rw [List.getLast?_cons, this]
      rfl
    · exact h
theorem right_fix {cs l : List UInt8} (h : ∀ b, l.getLast? = some b → cs.contains b = false) : Lib.trimRightS l cs = l := by
  unfold Lib.trimRightS
  rw [← List.head?_reverse] at h
  have e : l.reverse.dropWhile (cs.contains ·) = l.reverse := by
    cases hr : l.reverse with
    | nil => rfl
    | cons b t =>
      rw [hr] at h
      rw [List.dropWhile_cons, if_neg (by rw [h b rfl]; exact Bool.false_ne_true)]
  rw [e, List.reverse_reverse]
theorem right_last {cs l : List UInt8} {b : UInt8} (h : (Lib.trimRightS l cs).getLast? = some b) : cs.contains b = false := by
  unfold Lib.trimRightS at h
  rw [List.getLast?_reverse] at h
  have := List.head?_dropWhile_not (cs.contains ·) l.reverse
  rw [h] at this
  exact this
theorem left_idem (cs l : List UInt8) : Lib.trimLeftS (Lib.trimLeftS l cs) cs = Lib.trimLeftS l cs := by
  unfold Lib.trimLeftS
  cases h : l.dropWhile (cs.contains ·) with
  | nil => rfl
  | cons b t =>
    have := List.head?_dropWhile_not (cs.contains ·) l
    rw [h] at this
    rw [List.dropWhile_cons, if_neg]
    intro e
    have h2 : cs.contains b = false := this
    rw [h2] at e
    exact Bool.false_ne_true e
theorem trim_idem (l : List UInt8) : trim (trim l) = trim l := by
  unfold trim Lib.trimS
  rw [right_fix (l := Lib.trimLeftS (Lib.trimRightS l [32, 9]) [32, 9])]
  · exact left_idem _ _
  · intro b hb
    exact right_last (dropWhile_last hb)
theorem dropWhile_snoc {p : UInt8 → Bool} {c : UInt8} (hc : p c = true) : ∀ l : List UInt8, (l ++ [c]).dropWhile p = if (l.dropWhile p).isEmpty then [] else l.dropWhile p ++ [c]
  | [] => by simp [hc]
  | b :: l => by
    rw [List.cons_append, List.dropWhile_cons, List.dropWhile_cons]
    split
    · exact dropWhile_snoc hc l
    · simp
theorem trim_blank {c : UInt8} (hc : ([32, 9] : List UInt8).contains c = true) (l : List UInt8) : trim (c :: l) = trim l := by
  unfold trim Lib.trimS
  have e : Lib.trimRightS (c :: l) [32, 9] = if (Lib.trimRightS l [32, 9]).isEmpty then [] else c :: Lib.trimRightS l [32, 9] := by
    unfold Lib.trimRightS
    rw [List.reverse_cons, dropWhile_snoc (p := (([32, 9] : List UInt8).contains ·)) hc, List.isEmpty_reverse]
    split
    · rfl
    · rw [List.reverse_append]
      rfl
  rw [e]
  split
  · rename_i h
    rw [List.isEmpty_iff] at h
    rw [h]
  · unfold Lib.trimLeftS
    rw [List.dropWhile_cons, if_pos hc]
theorem trim_length (l : List UInt8) : (trim l).length ≤ l.length := by
  unfold trim Lib.trimS Lib.trimLeftS Lib.trimRightS
  have h1 := (List.dropWhile_sublist (l := (l.reverse.dropWhile (([32, 9] : List UInt8).contains ·)).reverse) (([32, 9] : List UInt8).contains ·)).length_le
  have h2 := (List.dropWhile_sublist (l := l.reverse) (([32, 9] : List UInt8).contains ·)).length_le
  rw [List.length_reverse] at h1 h2
  exact Nat.le_trans h1 h2
theorem nameC_not {c : UInt8} (h : nameC c = true) : c ≠ 58 := by rintro rfl; exact absurd h (by decide)
theorem cutL_length (c : UInt8) (l : List UInt8) : (cutL c l).length ≤ l.length := by
  unfold cutL
  split
  · exact (List.takeWhile_sublist _).length_le
  · exact Nat.le_refl _
theorem cutR_length (c : UInt8) (l : List UInt8) : (cutR c l).length ≤ l.length := by
  unfold cutR
  split
  · rw [List.length_drop]
    have := (List.dropWhile_sublist (l := l) (· != c)).length_le
    omega
  · simp
theorem take_to {c : UInt8} : ∀ {l r : List UInt8}, c ∉ l → (l ++ c :: r).takeWhile (· != c) = l
  | [], r, _ => by simp
  | b :: l, r, h => by
    have hb : (b != c) = true := by
      simp only [List.mem_cons, not_or] at h
      simp only [bne_iff_ne]
      exact fun e => h.1 e.symm
    rw [List.cons_append, List.takeWhile_cons, if_pos hb, take_to fun e => h (List.mem_cons_of_mem _ e)]
theorem drop_to {c : UInt8} : ∀ {l r : List UInt8}, c ∉ l → (l ++ c :: r).dropWhile (· != c) = c :: r
  | [], r, _ => by simp
  | b :: l, r, h => by
    have hb : (b != c) = true := by
      simp only [List.mem_cons, not_or] at h
      simp only [bne_iff_ne]
      exact fun e => h.1 e.symm
    rw [List.cons_append, List.dropWhile_cons, if_pos hb, drop_to fun e => h (List.mem_cons_of_mem _ e)]
theorem cutL_at {c : UInt8} {l r : List UInt8} (h : c ∉ l) : cutL c (l ++ c :: r) = l := by
  unfold cutL
  rw [if_pos (by simp), take_to h]
theorem cutR_at {c : UInt8} {l r : List UInt8} (h : c ∉ l) : cutR c (l ++ c :: r) = r := by
  unfold cutR
  rw [if_pos (by simp), drop_to h]
  rfl
theorem cutIs_at {c : UInt8} {l r : List UInt8} : cutIs c (l ++ c :: r) = true := by
  unfold cutIs
  simp
theorem name_no_colon {l : List UInt8} (h : nameB l = true) : (58 : UInt8) ∉ l := by
  unfold nameB allB at h
  simp only [Bool.and_eq_true, List.all_eq_true] at h
  exact fun e => nameC_not (h.2.2 _ e) rfl
theorem name_length {l : List UInt8} (h : nameB l = true) : l.length ≤ 40 := by
  unfold nameB at h
  simp only [Bool.and_eq_true, decide_eq_true_eq] at h
  exact h.2.1
theorem val_length {l : List UInt8} (h : valB l = true) : l.length ≤ 200 := by
  unfold valB at h
  simp only [Bool.and_eq_true, decide_eq_true_eq] at h
  exact h.1
theorem val_trim {l : List UInt8} (h : valB l = true) : trim l = l := by
  unfold valB at h
  simp only [Bool.and_eq_true, beq_iff_eq] at h
  exact h.2.1
end Go.Proofs.YtljppmpigijgaaaDoor.Sp
namespace Go.Proofs.YtljppmpigijgaaaDoor.P
open Go.RowKit Go.Proofs.YtljppmpigijgaaaDoorW.PrintWords Go.Proofs.YtljppmpigijgaaaDoorW.PrintLast Go.Proofs.YtljppmpigijgaaaDoorW.PrintMore

theorem size_data (s : ByteArray) : s.data.toList.length = s.size := by rw [Array.length_toList]; rfl
theorem name_f {a : ByteArray} (h : a.size ≤ 9223372036854775806) : field_Name.f a = some (Sp.nameB a.data.toList) := by unfold field_Name.f; rw [if_pos h]
theorem value_f {a : ByteArray} (h : a.size ≤ 9223372036854775806) : field_Value.f a = some (Sp.valB a.data.toList) := by unfold field_Value.f; rw [if_pos h]
theorem trim_f {a : ByteArray} (h : a.size ≤ 9223372036854775806) : field_Trim.f a = some ⟨(Sp.trim a.data.toList).toArray⟩ := by unfold field_Trim.f; rw [if_pos h]
theorem lower_f {a : ByteArray} (h : a.size ≤ 9223372036854775806) : field_Lower.f a = some ⟨(Sp.lower a.data.toList).toArray⟩ := by unfold field_Lower.f; rw [if_pos h]
theorem mk_size (l : List UInt8) : (⟨l.toArray⟩ : ByteArray).size = l.length := by show l.toArray.size = _; rw [List.size_toArray]
theorem toList_data (a : ByteArray) : a.toList = a.data.toList := ByteArray.toList_eq a
/-- The texts under a name, in their order. -/
def getS (l : List S32) (a : ByteArray) : List ByteArray := (l.filter fun x => Sp.lower x.f0.data.toList == Sp.lower a.data.toList).map (·.f1)
theorem getS_length (l : List S32) (a : ByteArray) : (getS l a).length ≤ l.length := by
  unfold getS
  rw [List.length_map]
  exact List.length_filter_le _ _
theorem field_Get_at (l : List S32) (a : ByteArray) (hl : l.length < 4398046511104) (ha : a.size ≤ 9223372036854775806) (hn : ∀ x ∈ l, x.f0.size ≤ 9223372036854775806) :
    ∀ (d i k : Nat) (acc : List ByteArray), l.length - i = d → i ≤ l.length → acc.length ≤ i → d + 1 ≤ k → field_Get.l0 k a acc l (l.length : Int) i = some (acc ++ getS (l.drop i) a)
  | d, i, 0, acc, hd, hi, hacc, hk => by omega
  | d, i, k + 1, acc, hd, hi, hacc, hk => by
    unfold field_Get.l0
    by_cases hlt : i < l.length
    · rw [if_pos (by omega), if_pos (by omega), if_pos (by omega)]
      have hx : rd_T32 l (i : Int) = l[i] := by simp [rd_T32, hlt]
      have hs := hn l[i] (List.getElem_mem hlt)
      have ew : wrap64 ((i : Int) + 1) = ((i + 1 : Nat) : Int) := by unfold wrap64; omega
      rw [hx, lower_f hs, lower_f ha, ew]
      simp only [Option.bind_some]
      have ed : l.drop i = l[i] :: l.drop (i + 1) := List.drop_eq_getElem_cons hlt
      have eg : getS (l.drop i) a = (if (Sp.lower l[i].f0.data.toList == Sp.lower a.data.toList) = true then [l[i].f1] else []) ++ getS (l.drop (i + 1)) a := by
        rw [ed]
        unfold getS
        rw [List.filter_cons]
        split <;> simp
      rw [eg]
      by_cases c : Sp.lower l[i].f0.data.toList = Sp.lower a.data.toList
      · rw [if_pos (by rw [toList_data, toList_data]; simpa using c), if_pos (by omega), if_pos (by simpa using c)]
        rw [field_Get_at l a hl ha hn (d - 1) (i + 1) k _ (by omega) (by omega) (by simp; omega) (by omega), List.append_assoc]
      · rw [if_neg (by rw [toList_data, toList_data]; simpa using c), if_neg (by simpa using c)]
        rw [field_Get_at l a hl ha hn (d - 1) (i + 1) k _ (by omega) (by omega) (by omega) (by omega), List.nil_append]
    · rw [if_neg (by omega), List.drop_of_length_le (by omega)]
      simp [getS]
theorem field_Get_ev (l : List S32) (a : ByteArray) (hl : l.length < 4398046511104) (ha : a.size ≤ 9223372036854775806) (hn : ∀ x ∈ l, x.f0.size ≤ 9223372036854775806) (k : Nat) (hk : l.length + 1 ≤ k) :
    field_Get.f k l a = some (getS l a) := by
  unfold field_Get.f
  have := field_Get_at l a hl ha hn l.length 0 k [] (by omega) (by omega) (by simp) hk
  simpa using this
end Go.Proofs.YtljppmpigijgaaaDoor.P
namespace Go.Proofs.YtljppmpigijgaaaDoor.P
open Go.RowKit Go.Proofs.YtljppmpigijgaaaDoorW.PrintWords Go.Proofs.YtljppmpigijgaaaDoorW.PrintLast Go.Proofs.YtljppmpigijgaaaDoorW.PrintMore

theorem wrap_next (n : Nat) (h : n < 8796093022208) : wrap64 ((n : Int) + 1) = ((n + 1 : Nat) : Int) := by unfold wrap64; omega
theorem bt_low {x : ByteArray} {i : Nat} (h : i < x.size) : bt x (i : Int) = ((x.data.toList[i]'(by rw [size_data]; exact h)).toNat : Int) := by
  unfold bt
  rw [dif_pos (by simpa using h)]
  rfl
theorem one_byte (c : UInt8) : (strOfNums [(c.toNat : Int)]) = ⟨#[c]⟩ := by
  have := Lib.Lz.strOfNums_map [c]
  simpa using this
theorem low_num (c : UInt8) (h : 65 ≤ (c.toNat : Int)) (h' : (c.toNat : Int) ≤ 90) : ((c.toNat : Int) + 32) % 256 = ((Sp.lowC c).toNat : Int) := by
  unfold Sp.lowC
  have h1 : (65 : UInt8) ≤ c := by rw [UInt8.le_iff_toNat_le]; simp; omega
  have h2 : c ≤ (90 : UInt8) := by rw [UInt8.le_iff_toNat_le]; simp; omega
  rw [if_pos (by simp [h1, h2]), UInt8.toNat_add]
  simp
theorem low_same (c : UInt8) (h : ¬ (65 ≤ (c.toNat : Int) ∧ (c.toNat : Int) ≤ 90)) : Sp.lowC c = c := by
  unfold Sp.lowC
  rw [if_neg]
  intro e
  simp only [Bool.and_eq_true, decide_eq_true_eq] at e
  obtain ⟨h1, h2⟩ := e
  rw [UInt8.le_iff_toNat_le] at h1 h2
  simp at h1 h2
  omega
theorem Low_at (x : ByteArray) (hx : x.size ≤ 9223372036854775806) :
    ∀ (d i k : Nat) (acc : ByteArray), x.size - i = d → i ≤ x.size → acc.size ≤ i → d + 1 ≤ k → lockageref05_Lower.l0 k x acc i = some ⟨(acc.data.toList ++ Sp.lower (x.data.toList.drop i)).toArray⟩
  | d, i, 0, acc, hd, hi, hacc, hk => by omega
  | d, i, k + 1, acc, hd, hi, hacc, hk => by
    unfold lockageref05_Lower.l0
    by_cases hlt : i < x.size
    · rw [if_pos (by omega), if_pos (by omega)]
      have hl : i < x.data.toList.length := by rw [size_data]; exact hlt
      have ew : wrap64 ((i : Int) + 1) = ((i + 1 : Nat) : Int) := by unfold wrap64; omega
      have ed : x.data.toList.drop i = x.data.toList[i] :: x.data.toList.drop (i + 1) := List.drop_eq_getElem_cons hl
      have go : ∀ c : UInt8, Sp.lowC (x.data.toList[i]) = c → (if acc.size + (strOfNums [(c.toNat : Int)]).size ≤ 9223372036854775807 then lockageref05_Lower.l0 k x (acc ++ strOfNums [(c.toNat : Int)]) (wrap64 ((i : Int) + 1)) else none) = some ⟨(acc.data.toList ++ Sp.lower (x.data.toList.drop i)).toArray⟩ := by
        intro c hc
        have s1 : (⟨#[c]⟩ : ByteArray).size = 1 := rfl
        rw [one_byte, if_pos (by omega), ew, Low_at x hx (d - 1) (i + 1) k _ (by omega) (by omega) (by rw [ByteArray.size_append]; omega) (by omega), ed]
        have e1 : Sp.lower (x.data.toList[i] :: x.data.toList.drop (i + 1)) = c :: Sp.lower (x.data.toList.drop (i + 1)) := by rw [← hc]; rfl
        have e2 : (acc ++ (⟨#[c]⟩ : ByteArray)).data.toList = acc.data.toList ++ [c] := by rw [ByteArray.data_append]; simp
        rw [e1, e2, List.append_assoc]
        rfl
      rw [bt_low hlt]
      simp only [Option.bind_some]
      by_cases h1 : (x.data.toList[i].toNat : Int) ≥ 65
      · rw [if_pos h1]
        by_cases h2 : (x.data.toList[i].toNat : Int) ≤ 90
        · rw [if_pos h2, low_num _ h1 h2]
          exact go _ rfl
        · rw [if_neg h2]
          exact go _ (low_same _ (by omega))
      · rw [if_neg h1]
        exact go _ (low_same _ (by omega))
    · rw [if_neg (by omega), List.drop_of_length_le (by rw [size_data]; omega)]
      have : (⟨(acc.data.toList ++ Sp.lower []).toArray⟩ : ByteArray) = acc := H.ba_ext (by simp [Sp.lower])
      rw [this]
theorem Low_ev (x : ByteArray) (hx : x.size ≤ 9223372036854775806) (k : Nat) (hk : x.size + 1 ≤ k) : lockageref05_Lower.f k x = some ⟨(Sp.lower x.data.toList).toArray⟩ := by
  unfold lockageref05_Lower.f
  have := Low_at x hx x.size 0 k ⟨#[]⟩ (by omega) (by omega) (by decide) (by omega)
  simpa using this
end Go.Proofs.YtljppmpigijgaaaDoor.P
namespace Go.Proofs.YtljppmpigijgaaaDoor.P
open Go.RowKit Go.Proofs.YtljppmpigijgaaaDoorW.PrintWords Go.Proofs.YtljppmpigijgaaaDoorW.PrintLast Go.Proofs.YtljppmpigijgaaaDoorW.PrintMore
def mNames : List ByteArray := [(⟨#[72, 111, 115, 116]⟩ : ByteArray), (⟨#[67, 111, 110, 116, 101, 110, 116, 45, 76, 101, 110, 103, 116, 104]⟩ : ByteArray), (⟨#[84, 114, 97, 110, 115, 102, 101, 114, 45, 69, 110, 99, 111, 100, 105, 110, 103]⟩ : ByteArray), (⟨#[67, 111, 110, 110, 101, 99, 116, 105, 111, 110]⟩ : ByteArray), (⟨#[67, 111, 111, 107, 105, 101]⟩ : ByteArray), (⟨#[86, 97, 114, 121]⟩ : ByteArray), (⟨#[65]⟩ : ByteArray), (⟨#[97, 99, 99, 101, 112, 116]⟩ : ByteArray), (⟨#[82, 97, 110, 103, 101]⟩ : ByteArray), (⟨#[67, 97, 99, 104, 101, 45, 67, 111, 110, 116, 114, 111, 108]⟩ : ByteArray), (⟨#[65, 117, 116, 104, 111, 114, 105, 122, 97, 116, 105, 111, 110]⟩ : ByteArray), (⟨#[88, 45, 70, 111, 114, 119, 97, 114, 100, 101, 100, 45, 70, 111, 114]⟩ : ByteArray), (⟨#[75, 101, 101, 112, 45, 65, 108, 105, 118, 101]⟩ : ByteArray)]
def mVals : List ByteArray := [(⟨#[]⟩ : ByteArray), (⟨#[51]⟩ : ByteArray), (⟨#[99, 104, 117, 110, 107, 101, 100]⟩ : ByteArray), (⟨#[99, 108, 111, 115, 101]⟩ : ByteArray), (⟨#[107, 101, 101, 112, 45, 97, 108, 105, 118, 101, 44, 32, 65]⟩ : ByteArray), (⟨#[97, 44, 32, 98]⟩ : ByteArray), (⟨#[110, 111, 45, 115, 116, 111, 114, 101]⟩ : ByteArray), (⟨#[48]⟩ : ByteArray), (⟨#[120]⟩ : ByteArray), (⟨#[65, 99, 99, 101, 112, 116]⟩ : ByteArray), (⟨#[97, 99, 99, 101, 112, 116, 44, 32, 65]⟩ : ByteArray)]
def mMeths : List ByteArray := [(⟨#[71, 69, 84]⟩ : ByteArray), (⟨#[80, 79, 83, 84]⟩ : ByteArray), (⟨#[72, 69, 65, 68]⟩ : ByteArray), (⟨#[80, 85, 84]⟩ : ByteArray), (⟨#[120, 45, 121]⟩ : ByteArray)]
def mTargs : List ByteArray := [(⟨#[47]⟩ : ByteArray), (⟨#[47, 97, 47, 98]⟩ : ByteArray), (⟨#[47, 97, 63, 120, 61, 49]⟩ : ByteArray), (⟨#[42]⟩ : ByteArray), (⟨#[47, 37, 52, 49]⟩ : ByteArray)]
theorem rdOf_mem {l : List ByteArray} {i : Int} (h0 : 0 ≤ i) (h : i < (l.length : Int)) : rdOf ByteArray.empty l i ∈ l := by
  have hl : i.toNat < l.length := by omega
  unfold rdOf
  rw [List.getD_eq_getElem?_getD, List.getElem?_eq_getElem hl]
  exact List.getElem_mem hl
theorem Pick_ok (l : List Int) (hl : l.length ≤ 281474976710656) (hw : ∀ x ∈ l, (Lit.int .u8 x).wf = true) (i n : Nat) (hi : i ≤ 1000) (hn : 0 < n) :
    ∃ r : Int, lockagelaw06_Maker_Pick.f l i n = some (r, ((i + 1 : Nat) : Int)) ∧ 0 ≤ r ∧ r < n := by
  have e1 : wrap64 ((i : Int) + 1) = ((i + 1 : Nat) : Int) := by unfold wrap64; omega
  have e2 : wrap64 (((i + 1 : Nat) : Int) - 1) = (i : Int) := by unfold wrap64; omega
  unfold lockagelaw06_Maker_Pick.f
  rw [e1, e2]
  clear e1 e2
  by_cases h : ((i + 1 : Nat) : Int) > (l.length : Int)
  · rw [if_pos h]
    exact ⟨0, rfl, by omega, by omega⟩
  · have hx : rd l (i : Int) = l[i]'(by omega) := by simp [rd, show i < l.length by omega]
    have hb := bounds_u8 (hw (l[i]'(by omega)) (List.getElem_mem _))
    have ex : wrap64 (l[i]'(by omega)) = l[i]'(by omega) := by
      generalize l[i]'(by omega) = v at hb
      unfold wrap64; omega
    rw [if_neg h, if_pos (by omega), if_pos (by omega), if_neg (by omega), hx, ex]
    exact ⟨_, rfl, Int.tmod_nonneg _ hb.1, Int.tmod_lt_of_pos _ (by omega)⟩
def MFs (l : List S32) : Prop := ∀ x ∈ l, x.f0 ∈ mNames ∧ x.f1 ∈ mVals
theorem Head_l0 (l : List Int) (hl : l.length ≤ 281474976710656) (hw : ∀ x ∈ l, (Lit.int .u8 x).wf = true) (m t s : ByteArray) (st mi : Int) (d : Nat) :
    ∀ (i k : Nat) (acc : List S32), d ≤ 6 → acc.length + d ≤ 6 → i + 2 * d ≤ 900 → d + 1 ≤ k → MFs acc →
      ∃ fs j, lockagelaw06_Maker_Head.l0 k (d : Int) l (i : Int) m t st s mi acc = some (m, t, st, s, mi, fs, j) ∧ fs.length ≤ 6 ∧ MFs fs := by
  induction d with
  | zero =>
    intro i k acc hd ha hi hk hm
    obtain ⟨k, rfl⟩ : ∃ j, k = j + 1 := ⟨k - 1, by omega⟩
    unfold lockagelaw06_Maker_Head.l0
    rw [if_neg (by omega)]
    exact ⟨acc, _, rfl, by omega, hm⟩
  | succ d ih =>
    intro i k acc hd ha hi hk hm
    obtain ⟨k, rfl⟩ : ∃ j, k = j + 1 := ⟨k - 1, by omega⟩
    obtain ⟨r1, p1, a1, b1⟩ := Pick_ok l hl hw i 13 (by omega) (by omega)
    obtain ⟨r2, p2, a2, b2⟩ := Pick_ok l hl hw (i + 1) 11 (by omega) (by omega)
    have hm2 : MFs (acc ++ [(⟨rdOf ByteArray.empty mNames r1, rdOf ByteArray.empty mVals r2⟩ : S32)]) := by
      intro x hx
      rcases List.mem_append.1 hx with hx | hx
      · exact hm x hx
      · obtain rfl := List.mem_singleton.1 hx
        exact ⟨rdOf_mem a1 b1, rdOf_mem a2 b2⟩
    obtain ⟨fs, j, h1, h2, h3⟩ := ih (i + 2) k _ (by omega) (by simp; omega) (by omega) (by omega) hm2
    refine ⟨fs, j, ?_, h2, h3⟩
    have q1 : lockagelaw06_Maker_Pick.f l (i : Int) 13 = some (r1, ((i + 1 : Nat) : Int)) := p1
    have q2 : lockagelaw06_Maker_Pick.f l ((i + 1 : Nat) : Int) 11 = some (r2, ((i + 2 : Nat) : Int)) := p2
    have e1 : wrap64 (((d + 1 : Nat) : Int) - 1) = (d : Int) := by unfold wrap64; omega
    have c1 : ((d + 1 : Nat) : Int) > 0 := by omega
    have c2 : acc.length < 4398046511104 := by omega
    clear p1 p2 hm2 ih hm hi hk ha hd
    simp only [mNames, mVals] at h1
    unfold lockagelaw06_Maker_Head.l0
    simp only [Option.bind_some, List.length_cons, List.length_nil, Nat.zero_add, Nat.reduceAdd, if_pos c1, q1, q2, if_pos a1, if_pos b1, if_pos a2, if_pos b2, if_pos c2, e1]
    exact h1
theorem Head_j0 (l : List Int) (hl : l.length ≤ 281474976710656) (hw : ∀ x ∈ l, (Lit.int .u8 x).wf = true) (m t s : ByteArray) (st mi : Int) (i k : Nat) (hi : i ≤ 100) (hk : 20 ≤ k) :
    ∃ fs j, lockagelaw06_Maker_Head.j0 k l (i : Int) m t st s mi = some (m, t, st, s, mi, fs, j) ∧ fs.length ≤ 6 ∧ MFs fs := by
  obtain ⟨k, rfl⟩ : ∃ j, k = j + 1 := ⟨k - 1, by omega⟩
  obtain ⟨r, p, a, b⟩ := Pick_ok l hl hw i 7 (by omega) (by omega)
  obtain ⟨d, rfl⟩ := Int.eq_ofNat_of_zero_le a
  obtain ⟨fs, j, h1, h2, h3⟩ := Head_l0 l hl hw m t s st mi d (i + 1) k [] (by omega) (by simp; omega) (by omega) (by omega) (fun x hx => by cases hx)
  refine ⟨fs, j, ?_, h2, h3⟩
  unfold lockagelaw06_Maker_Head.j0
  dsimp only
  have q : lockagelaw06_Maker_Pick.f l (i : Int) 7 = some ((d : Int), ((i + 1 : Nat) : Int)) := p
  rw [q]
  simp only [Option.bind_some]
  exact h1
theorem Made_false (l : List Int) (hl : l.length ≤ 281474976710656) (hw : ∀ x ∈ l, (Lit.int .u8 x).wf = true) :
    ∃ m t mi fs, (∀ k, 20 ≤ k → lockagelaw06_Made.f k l false = some (m, t, 0, ⟨#[]⟩, mi, fs)) ∧ m ∈ mMeths ∧ t ∈ mTargs ∧ (mi = 0 ∨ mi = 1) ∧ fs.length ≤ 6 ∧ MFs fs := by
  obtain ⟨r1, p1, a1, b1⟩ := Pick_ok l hl hw 0 2 (by omega) (by omega)
  obtain ⟨r2, p2, a2, b2⟩ := Pick_ok l hl hw 1 5 (by omega) (by omega)
  obtain ⟨r3, p3, a3, b3⟩ := Pick_ok l hl hw 2 5 (by omega) (by omega)
  obtain ⟨fs, j, h1, h2, h3⟩ := Head_j0 l hl hw (rdOf ByteArray.empty mMeths r2) (rdOf ByteArray.empty mTargs r3) ⟨#[]⟩ 0 (wrap64 (1 - r1)) 3 20 (by omega) (by omega)
  refine ⟨rdOf ByteArray.empty mMeths r2, rdOf ByteArray.empty mTargs r3, wrap64 (1 - r1), fs, fun k hk => at_rounds (lockagelaw06_Made.mono l false) hk ?_, rdOf_mem a2 b2, rdOf_mem a3 b3, ?_, h2, h3⟩
  · unfold lockagelaw06_Made.f lockagelaw06_Maker_Head.f
    have q1 : lockagelaw06_Maker_Pick.f l 0 2 = some (r1, 1) := p1
    have q2 : lockagelaw06_Maker_Pick.f l 1 5 = some (r2, 2) := p2
    have q3 : lockagelaw06_Maker_Pick.f l 2 5 = some (r3, 3) := p3
    have q4 : lockagelaw06_Maker_Head.j0 20 l 3 (rdOf ByteArray.empty mMeths r2) (rdOf ByteArray.empty mTargs r3) 0 ⟨#[]⟩ (wrap64 (1 - r1)) = some (rdOf ByteArray.empty mMeths r2, rdOf ByteArray.empty mTargs r3, 0, ⟨#[]⟩, wrap64 (1 - r1), fs, j) := h1
    rw [q1]
    simp only [Option.bind_some]
    rw [if_neg (by decide), q2]
    simp only [Option.bind_some]
    simp only [List.length_cons, List.length_nil, Nat.zero_add, Nat.reduceAdd]
    rw [if_pos a2, if_pos b2, q3]
    simp only [Option.bind_some]
    rw [if_pos a3, if_pos b3]
    simp only [mMeths, mTargs] at q4
    rw [q4]
    rfl
  · have : r1 = 0 ∨ r1 = 1 := by omega
    rcases this with rfl | rfl
    · exact .inr (by unfold wrap64; omega)
    · exact .inl (by unfold wrap64; omega)
theorem meths_good : ∀ m ∈ mMeths, Sp.nameB m.data.toList = true ∧ m.size ≤ 100 := by
  have h : (mMeths.all fun m => Sp.nameB m.data.toList && decide (m.size ≤ 100)) = true := by kernel_rfl
  intro m hm
  have := List.all_eq_true.1 h m hm
  simpa using this
theorem targs_good : ∀ m ∈ mTargs, head_target.f 30 m = some true := by
  have h : (mTargs.all fun m => head_target.f 30 m == some true) = true := by kernel_rfl
  intro m hm
  have := List.all_eq_true.1 h m hm
  simpa using this
theorem names_good : ∀ m ∈ mNames, Sp.nameB m.data.toList = true ∧ m.size ≤ 100 := by
  have h : (mNames.all fun m => Sp.nameB m.data.toList && decide (m.size ≤ 100)) = true := by kernel_rfl
  intro m hm
  have := List.all_eq_true.1 h m hm
  simpa using this
theorem vals_good : ∀ m ∈ mVals, Sp.valB m.data.toList = true ∧ m.size ≤ 100 := by
  have h : (mVals.all fun m => Sp.valB m.data.toList && decide (m.size ≤ 100)) = true := by kernel_rfl
  intro m hm
  have := List.all_eq_true.1 h m hm
  simpa using this
theorem made_small {fs : List S32} (h : MFs fs) : smallF fs = true := by
  unfold smallF
  rw [List.all_eq_true]
  intro x hx
  have h1 := (names_good _ (h x hx).1).2
  have h2 := (vals_good _ (h x hx).2).2
  simp only [Bool.and_eq_true, decide_eq_true_eq]
  omega
theorem made_good {fs : List S32} (h : MFs fs) : fs.any badF = false := by
  rw [List.any_eq_false]
  intro x hx
  unfold badF
  rw [(names_good _ (h x hx).1).1, (vals_good _ (h x hx).2).1]
  decide
theorem Right_made {m t : ByteArray} {mi : Int} {fs : List S32} (hm : m ∈ mMeths) (ht : t ∈ mTargs) (hi : mi = 0 ∨ mi = 1) (hl : fs.length ≤ 6) (hf : MFs fs) (k : Nat) (hk : 30 ≤ k) :
    head_Right.f k m t 0 ⟨#[]⟩ mi fs false = some true := by
  have hms := meths_good m hm
  unfold head_Right.f
  rw [if_pos (made_small hf), if_neg (by omega), if_neg (by omega), if_neg (by omega), if_neg (by rw [made_good hf]; decide), if_neg (by decide), name_f (by omega), hms.1]
  simp only [Option.bind_some]
  rw [if_pos trivial, at_rounds (head_target.mono t) hk (targs_good t ht)]
  simp only [Option.bind_some]
  rw [if_pos trivial, if_pos trivial, toList_data]
  rfl
end Go.Proofs.YtljppmpigijgaaaDoor.P
namespace Go.Proofs.YtljppmpigijgaaaDoor.P
open Go.RowKit Go.Proofs.YtljppmpigijgaaaDoorW.PrintWords Go.Proofs.YtljppmpigijgaaaDoorW.PrintLast Go.Proofs.YtljppmpigijgaaaDoorW.PrintMore
def mStats : List Int := [200, 404, 304, 204, 100, 599, 503]
def mReas : List ByteArray := [(⟨#[79, 75]⟩ : ByteArray), (⟨#[]⟩ : ByteArray), (⟨#[78, 111, 116, 32, 70, 111, 117, 110, 100]⟩ : ByteArray), (⟨#[97, 9, 98]⟩ : ByteArray)]
theorem rd_mem {l : List Int} {i : Int} (h0 : 0 ≤ i) (h : i < (l.length : Int)) : rd l i ∈ l := by
  have hl : i.toNat < l.length := by omega
  unfold rd
  rw [List.getD_eq_getElem?_getD, List.getElem?_eq_getElem hl]
  exact List.getElem_mem hl
theorem Made_true (l : List Int) (hl : l.length ≤ 281474976710656) (hw : ∀ x ∈ l, (Lit.int .u8 x).wf = true) :
    ∃ st s mi fs, (∀ k, 20 ≤ k → lockagelaw06_Made.f k l true = some (⟨#[]⟩, ⟨#[]⟩, st, s, mi, fs)) ∧ st ∈ mStats ∧ s ∈ mReas ∧ (mi = 0 ∨ mi = 1) ∧ fs.length ≤ 6 ∧ MFs fs := by
  obtain ⟨r1, p1, a1, b1⟩ := Pick_ok l hl hw 0 2 (by omega) (by omega)
  obtain ⟨r2, p2, a2, b2⟩ := Pick_ok l hl hw 1 7 (by omega) (by omega)
  obtain ⟨r3, p3, a3, b3⟩ := Pick_ok l hl hw 2 4 (by omega) (by omega)
  obtain ⟨fs, j, h1, h2, h3⟩ := Head_j0 l hl hw ⟨#[]⟩ ⟨#[]⟩ (rdOf ByteArray.empty mReas r3) (rd mStats r2) (wrap64 (1 - r1)) 3 20 (by omega) (by omega)
  refine ⟨rd mStats r2, rdOf ByteArray.empty mReas r3, wrap64 (1 - r1), fs, fun k hk => at_rounds (lockagelaw06_Made.mono l true) hk ?_, rd_mem a2 b2, rdOf_mem a3 b3, ?_, h2, h3⟩
  · unfold lockagelaw06_Made.f lockagelaw06_Maker_Head.f
    have q1 : lockagelaw06_Maker_Pick.f l 0 2 = some (r1, 1) := p1
    have q2 : lockagelaw06_Maker_Pick.f l 1 7 = some (r2, 2) := p2
    have q3 : lockagelaw06_Maker_Pick.f l 2 4 = some (r3, 3) := p3
    have q4 : lockagelaw06_Maker_Head.j0 20 l 3 ⟨#[]⟩ ⟨#[]⟩ (rd mStats r2) (rdOf ByteArray.empty mReas r3) (wrap64 (1 - r1)) = some (⟨#[]⟩, ⟨#[]⟩, rd mStats r2, rdOf ByteArray.empty mReas r3, wrap64 (1 - r1), fs, j) := h1
    rw [q1]
    simp only [Option.bind_some]
    rw [if_pos trivial, q2]
    simp only [Option.bind_some, List.length_cons, List.length_nil, Nat.zero_add, Nat.reduceAdd]
    rw [if_pos a2, if_pos b2, q3]
    simp only [Option.bind_some]
    rw [if_pos a3, if_pos b3]
    simp only [mStats, mReas] at q4
    rw [q4]
    rfl
  · have : r1 = 0 ∨ r1 = 1 := by omega
    rcases this with rfl | rfl
    · exact .inr (by unfold wrap64; omega)
    · exact .inl (by unfold wrap64; omega)
end Go.Proofs.YtljppmpigijgaaaDoor.P
namespace Go.Proofs.YtljppmpigijgaaaDoor.P
open Go.RowKit Go.Proofs.YtljppmpigijgaaaDoorW.PrintWords Go.Proofs.YtljppmpigijgaaaDoorW.PrintLast Go.Proofs.YtljppmpigijgaaaDoorW.PrintMore
def hasT (l : List ByteArray) (c : List UInt8) : Bool := l.any fun x => c == x.toList
def cClose : List UInt8 := [99, 108, 111, 115, 101]
def cKeep : List UInt8 := [107, 101, 101, 112, 45, 97, 108, 105, 118, 101]
theorem hasT_drop (l : List ByteArray) (c : List UInt8) (j : Nat) (h : j < l.length) : hasT (l.drop j) c = (c == l[j].toList || hasT (l.drop (j + 1)) c) := by
  unfold hasT
  rw [List.drop_eq_getElem_cons h, List.any_cons]
theorem hasT_append (a b : List ByteArray) (c : List UInt8) : hasT (a ++ b) c = (hasT a c || hasT b c) := by unfold hasT; rw [List.any_append]
theorem rdOf_at {l : List ByteArray} {j : Nat} (h : j < l.length) : rdOf ByteArray.empty l (j : Int) = l[j] := by simp [rdOf, h]
theorem wrap_up (n : Nat) (h : n < 8796093022208) : wrap64 ((n : Int) + 1) = ((n + 1 : Nat) : Int) := by unfold wrap64; omega
theorem Index_at (l : List ByteArray) (a : ByteArray) (hl : l.length < 8796093022208) (d : Nat) :
    ∀ (i k : Nat), l.length - i = d → d + 1 ≤ k → ∃ r : Int, slices_Index_string_string.l0 k l a (l.length : Int) i = some r ∧ decide (r ≥ 0) = hasT (l.drop i) a.toList := by
  induction d with
  | zero =>
    intro i k hd hk
    obtain ⟨k, rfl⟩ : ∃ j, k = j + 1 := ⟨k - 1, by omega⟩
    unfold slices_Index_string_string.l0
    rw [if_neg (by omega), List.drop_of_length_le (by omega)]
    exact ⟨-1, rfl, rfl⟩
  | succ d ih =>
    intro i k hd hk
    obtain ⟨k, rfl⟩ : ∃ j, k = j + 1 := ⟨k - 1, by omega⟩
    have hi : i < l.length := by omega
    unfold slices_Index_string_string.l0
    rw [if_pos (by omega), if_pos (by omega), if_pos (by omega), rdOf_at hi, hasT_drop _ _ _ hi]
    by_cases c : a.toList = l[i].toList
    · rw [if_pos c]
      refine ⟨_, rfl, ?_⟩
      rw [c]
      simp
    · rw [if_neg c, wrap_up i (by omega)]
      obtain ⟨r, h1, h2⟩ := ih (i + 1) k (by omega) (by omega)
      refine ⟨r, h1, ?_⟩
      rw [h2]
      simp [c]
theorem Contains_ev (l : List ByteArray) (a : ByteArray) (hl : l.length < 8796093022208) (k : Nat) (hk : l.length + 1 ≤ k) : slices_Contains_string_string.f k l a = some (hasT l a.toList) := by
  obtain ⟨r, h1, h2⟩ := Index_at l a hl l.length 0 k (by omega) hk
  unfold slices_Contains_string_string.f slices_Index_string_string.f
  rw [show slices_Index_string_string.l0 k l a (l.length : Int) 0 = some r from h1]
  simp only [Option.bind_some]
  rw [h2]
  rfl
def allI (V : List ByteArray) : List ByteArray := V.flatMap itemsB
theorem allI_drop (V : List ByteArray) (i : Nat) (h : i < V.length) : allI (V.drop i) = itemsB V[i] ++ allI (V.drop (i + 1)) := by
  unfold allI
  rw [List.drop_eq_getElem_cons h, List.flatMap_cons]
def stayS (V : List ByteArray) (mi : Int) : Bool := !hasT (allI V) cClose && (mi == 1 || hasT (allI V) cKeep)
theorem Stays_l0 (V : List ByteArray) (hV : ∀ v ∈ V, v.size ≤ 1000) (hl : V.length ≤ 100) (a b : ByteArray) (c : Int) (s : ByteArray) (mi : Int) (fs : List S32) (d : Nat) :
    ∀ (i k : Nat) (acc : List ByteArray), V.length - i = d → i ≤ V.length → acc.length ≤ 1001 * i → d + 110000 ≤ k →
      frame_Stays.l0 k acc V (V.length : Int) i a b c s mi fs = some (!hasT (acc ++ allI (V.drop i)) cClose && (mi == 1 || hasT (acc ++ allI (V.drop i)) cKeep)) := by
  induction d with
  | zero =>
    intro i k acc hd hi ha hk
    obtain ⟨k, rfl⟩ : ∃ j, k = j + 1 := ⟨k - 1, by omega⟩
    have e : allI (V.drop i) = [] := by rw [List.drop_of_length_le (by omega)]; rfl
    unfold frame_Stays.l0
    rw [if_neg (by omega), e, List.append_nil, Contains_ev acc _ (by omega) k (by omega), Contains_ev acc _ (by omega) k (by omega)]
    simp only [Option.bind_some]
    have e1 : (⟨#[99, 108, 111, 115, 101]⟩ : ByteArray).toList = cClose := by rw [toList_data]; rfl
    have e2 : (⟨#[107, 101, 101, 112, 45, 97, 108, 105, 118, 101]⟩ : ByteArray).toList = cKeep := by rw [toList_data]; rfl
    rw [e1, e2]
    cases hasT acc cClose with
    | true => rw [if_pos rfl]; rfl
    | false =>
      rw [if_neg (by decide)]
      by_cases h : mi = 1
      · rw [if_pos h]; simp [h]
      · rw [if_neg h]; simp [h]
  | succ d ih =>
    intro i k acc hd hi ha hk
    obtain ⟨k, rfl⟩ : ∃ j, k = j + 1 := ⟨k - 1, by omega⟩
    have hlt : i < V.length := by omega
    have hs := hV V[i] (List.getElem_mem hlt)
    have hle := items_le V[i]
    unfold frame_Stays.l0
    rw [if_pos (by omega), if_pos (by omega), if_pos (by omega), rdOf_at hlt]
    unfold field_Items.f
    rw [if_pos (by omega)]
    simp only [Option.bind_some]
    rw [if_pos (by omega), wrap_up i (by omega), ih (i + 1) k _ (by omega) (by omega) (by rw [List.length_append]; omega) (by omega), allI_drop V i hlt, List.append_assoc]
theorem Stays_ev (V : List ByteArray) (hV : ∀ v ∈ V, v.size ≤ 1000) (hl : V.length ≤ 100) (a b : ByteArray) (c : Int) (s : ByteArray) (mi : Int) (fs : List S32) (k : Nat) (hk : 120000 ≤ k)
    (hG : field_Get.f k fs (⟨#[67, 111, 110, 110, 101, 99, 116, 105, 111, 110]⟩ : ByteArray) = some V) : frame_Stays.f k a b c s mi fs = some (stayS V mi) := by
  unfold frame_Stays.f
  rw [hG]
  simp only [Option.bind_some]
  have := Stays_l0 V hV hl a b c s mi fs V.length 0 k [] (by omega) (by omega) (by simp) (by omega)
  simpa [stayS] using this
end Go.Proofs.YtljppmpigijgaaaDoor.P
namespace Go.Proofs.YtljppmpigijgaaaDoor.P
open Go.RowKit Go.Proofs.YtljppmpigijgaaaDoorW.PrintWords Go.Proofs.YtljppmpigijgaaaDoorW.PrintLast Go.Proofs.YtljppmpigijgaaaDoorW.PrintMore
def sItems : List ByteArray := [(⟨#[99, 108, 111, 115, 101]⟩ : ByteArray), (⟨#[107, 101, 101, 112, 45, 97, 108, 105, 118, 101]⟩ : ByteArray), (⟨#[97]⟩ : ByteArray), (⟨#[]⟩ : ByteArray), (⟨#[99, 108, 111, 115, 101, 100]⟩ : ByteArray), (⟨#[67, 76, 79, 83, 69]⟩ : ByteArray), (⟨#[75, 101, 101, 112, 45, 65, 108, 105, 118, 101]⟩ : ByteArray)]
def pairOk (x y : ByteArray) : Bool :=
  (hasT (itemsB ((x ++ (⟨#[44]⟩ : ByteArray)) ++ y)) cClose == hasT (itemsB ⟨(Sp.lower y.data.toList).toArray⟩ ++ itemsB x) cClose) &&
  ((hasT (itemsB ((x ++ (⟨#[44]⟩ : ByteArray)) ++ y)) cKeep == hasT (itemsB ⟨(Sp.lower y.data.toList).toArray⟩ ++ itemsB x) cKeep) && (decide (x.size ≤ 10) && decide (((x ++ (⟨#[44]⟩ : ByteArray)) ++ y).size ≤ 30)))
theorem pairs_ok {x y : ByteArray} (hx : x ∈ sItems) (hy : y ∈ sItems) : pairOk x y = true := by
  have h : (sItems.all fun x => sItems.all fun y => pairOk x y) = true := by kernel_rfl
  exact List.all_eq_true.1 (List.all_eq_true.1 h x hx) y hy
theorem getS_append (l r : List S32) (a : ByteArray) : getS (l ++ r) a = getS l a ++ getS r a := by
  unfold getS
  rw [List.filter_append, List.map_append]
theorem allI_append (V W : List ByteArray) : allI (V ++ W) = allI V ++ allI W := by
  unfold allI
  rw [List.flatMap_append]
theorem stay_of {V W : List ByteArray} {mi : Int} (h1 : hasT (allI V) cClose = hasT (allI W) cClose) (h2 : hasT (allI V) cKeep = hasT (allI W) cKeep) : stayS V mi = stayS W mi := by
  unfold stayS
  rw [h1, h2]
theorem made_any (l : List Int) (b : Bool) (hl : l.length ≤ 281474976710656) (hw : ∀ x ∈ l, (Lit.int .u8 x).wf = true) :
    ∃ m t st s mi fs, (∀ k, 20 ≤ k → lockagelaw06_Made.f k l b = some (m, t, st, s, mi, fs)) ∧ (mi = 0 ∨ mi = 1) ∧ fs.length ≤ 6 ∧ MFs fs := by
  cases b with
  | false =>
    obtain ⟨m, t, mi, fs, h, _, _, hi, hf, hm⟩ := Made_false l hl hw
    exact ⟨_, _, _, _, mi, fs, h, hi, hf, hm⟩
  | true =>
    obtain ⟨st, s, mi, fs, h, _, _, hi, hf, hm⟩ := Made_true l hl hw
    exact ⟨_, _, _, _, mi, fs, h, hi, hf, hm⟩
theorem made_get {fs : List S32} (hf : MFs fs) (a : ByteArray) : ∀ v ∈ getS fs a, v.size ≤ 100 := by
  intro v hv
  unfold getS at hv
  obtain ⟨x, hx, rfl⟩ := List.mem_map.1 hv
  exact (vals_good _ (hf x (List.mem_filter.1 hx).1).2).2
theorem idx7 {a : Int} (h : (Lit.int .u8 a).wf = true) : 0 ≤ Int.tmod (wrap64 a) 7 ∧ Int.tmod (wrap64 a) 7 < 7 := by
  unfold Lit.wf at h
  simp [IntKind.min, IntKind.max, IntKind.signed, IntKind.bits] at h
  have e : wrap64 a = a := by unfold wrap64; omega
  rw [e, Int.tmod_eq_emod_of_nonneg (by omega)]
  omega
set_option maxRecDepth 100000 in
theorem awakeW_at (k : Nat) (hk : 300 ≤ k) : lockagelaw07_awake.f k = some true := at_rounds lockagelaw07_awake.mono hk (by kernel_rfl)
def kConn : ByteArray := ⟨#[67, 111, 110, 110, 101, 99, 116, 105, 111, 110]⟩
theorem stay_at (m t s : ByteArray) (st mi : Int) (fs : List S32) (r : List S32) (R : List ByteArray) (hl : fs.length ≤ 6) (hf : MFs fs) (hr : r.length ≤ 2) (hrn : ∀ x ∈ r, x.f0.size ≤ 100) (hR : getS r kConn = R) (hRs : ∀ v ∈ R, v.size ≤ 1000) :
    frame_Stays.f 1000000 m t st s mi (fs ++ r) = some (stayS (getS fs kConn ++ R) mi) := by
  have hg : field_Get.f 1000000 (fs ++ r) (⟨#[67, 111, 110, 110, 101, 99, 116, 105, 111, 110]⟩ : ByteArray) = some (getS fs kConn ++ R) := by
    rw [field_Get_ev (fs ++ r) _ (by rw [List.length_append]; omega) (by decide) (fun x hx => ?_) 1000000 (by rw [List.length_append]; omega), getS_append]
    · show some (getS fs kConn ++ getS r kConn) = _
      rw [hR]
    · rcases List.mem_append.1 hx with h | h
      · have := (names_good _ (hf x h).1).2
        omega
      · have := hrn x h
        omega
  have hlen : (getS fs kConn ++ R).length ≤ 100 := by
    have h1 := getS_length fs kConn
    have h2 := getS_length r kConn
    rw [hR] at h2
    rw [List.length_append]
    omega
  refine Stays_ev _ (fun v hv => ?_) hlen m t st s mi _ 1000000 (by omega) hg
  rcases List.mem_append.1 hv with h | h
  · have := made_get hf kConn v h
    omega
  · exact hRs v h
theorem FrameStays_pure : lockagelaw07_FrameStays.Pure := by
  intro l a1 a2 b hl _ hw h1 h2
  obtain ⟨m, t, st, s, mi, fs, hm, hi, hf6, hf⟩ := made_any l b (by simp [maxLen] at hl; omega) hw
  obtain ⟨i0, i7⟩ := idx7 h1
  obtain ⟨j0, j7⟩ := idx7 h2
  obtain ⟨x, hx⟩ : ∃ x, x = rdOf ByteArray.empty sItems (Int.tmod (wrap64 a1) 7) := ⟨_, rfl⟩
  obtain ⟨y, hy⟩ : ∃ y, y = rdOf ByteArray.empty sItems (Int.tmod (wrap64 a2) 7) := ⟨_, rfl⟩
  have hxm : x ∈ sItems := by rw [hx]; exact rdOf_mem i0 i7
  have hym : y ∈ sItems := by rw [hy]; exact rdOf_mem j0 j7
  have hp := pairs_ok hxm hym
  have hq := pairs_ok hym hxm
  unfold pairOk at hp hq
  simp only [Bool.and_eq_true, beq_iff_eq, decide_eq_true_eq] at hp hq
  obtain ⟨p1, p2, px, ps⟩ := hp
  obtain ⟨_, _, qx, _⟩ := hq
  refine ⟨1000000, ?_⟩
  unfold lockagelaw07_FrameStays.f
  rw [awakeW_at 1000000 (by omega)]
  simp only [Option.bind_some]
  have hlow : lockageref05_Lower.f 1000000 y = some ⟨(Sp.lower y.data.toList).toArray⟩ := Low_ev y (by omega) 1000000 (by omega)
  have hls : (⟨(Sp.lower y.data.toList).toArray⟩ : ByteArray).size ≤ 1000 := by
    rw [mk_size]
    unfold Sp.lower
    rw [List.length_map, size_data]
    omega
  have hsI : ([(⟨#[99, 108, 111, 115, 101]⟩ : ByteArray), (⟨#[107, 101, 101, 112, 45, 97, 108, 105, 118, 101]⟩ : ByteArray), (⟨#[97]⟩ : ByteArray), (⟨#[]⟩ : ByteArray), (⟨#[99, 108, 111, 115, 101, 100]⟩ : ByteArray), (⟨#[67, 76, 79, 83, 69]⟩ : ByteArray), (⟨#[75, 101, 101, 112, 45, 65, 108, 105, 118, 101]⟩ : ByteArray)] : List ByteArray) = sItems := rfl
  rw [if_pos trivial, hsI, if_pos i0, if_pos (show _ < (sItems.length : Int) from i7), if_pos j0, if_pos (show _ < (sItems.length : Int) from j7), ← hx, ← hy, hm 1000000 (by omega)]
  simp only [Option.bind_some, List.nil_append, List.length_nil, Nat.zero_add]
  have sz1 : x.size + 1 ≤ 9223372036854775807 := by omega
  have sz2 : (x ++ (⟨#[44]⟩ : ByteArray)).size + y.size ≤ 9223372036854775807 := by
    rw [ByteArray.size_append, show (⟨#[44]⟩ : ByteArray).size = 1 from rfl]
    omega
  rw [if_pos (by omega), if_pos sz1, if_pos sz2, if_pos (by omega), hlow]
  simp only [Option.bind_some]
  rw [if_pos (by simp only [List.length_cons, List.length_nil]; omega), if_pos (by omega)]
  rw [stay_at m t s st mi fs [⟨⟨#[67, 111, 110, 110, 101, 99, 116, 105, 111, 110]⟩, x ++ (⟨#[44]⟩ : ByteArray) ++ y⟩] [x ++ (⟨#[44]⟩ : ByteArray) ++ y] hf6 hf (by simp) (by intro z hz; rw [List.mem_singleton] at hz; subst hz; exact (by decide : (10 : Nat) ≤ 100)) (by rfl) (by intro v hv; rw [List.mem_singleton] at hv; subst hv; omega)]
  rw [stay_at m t s st mi fs [⟨⟨#[99, 111, 110, 110, 101, 99, 116, 105, 111, 110]⟩, ⟨(Sp.lower y.data.toList).toArray⟩⟩, ⟨⟨#[67, 79, 78, 78, 69, 67, 84, 73, 79, 78]⟩, x⟩] [⟨(Sp.lower y.data.toList).toArray⟩, x] hf6 hf (by simp) (by intro z hz; simp only [List.mem_cons, List.not_mem_nil, or_false] at hz; rcases hz with rfl | rfl <;> exact (by decide : (10 : Nat) ≤ 100)) (by rfl) (by intro v hv; simp only [List.mem_cons, List.not_mem_nil, or_false] at hv; rcases hv with rfl | rfl; exact hls; omega)]
  rw [stay_at m t s st mi fs [⟨⟨#[67, 111, 110, 110, 101, 99, 116, 105, 111, 110]⟩, ⟨#[120, 44, 32, 99, 108, 111, 115, 101]⟩⟩] [⟨#[120, 44, 32, 99, 108, 111, 115, 101]⟩] hf6 hf (by simp) (by intro z hz; rw [List.mem_singleton] at hz; subst hz; exact (by decide : (10 : Nat) ≤ 100)) (by rfl) (by intro v hv; rw [List.mem_singleton] at hv; subst hv; exact (by decide : (8 : Nat) ≤ 1000))]
  simp only [Option.bind_some]
  have e1 : stayS (getS fs kConn ++ [x ++ (⟨#[44]⟩ : ByteArray) ++ y]) mi = stayS (getS fs kConn ++ [⟨(Sp.lower y.data.toList).toArray⟩, x]) mi := by
    have al : ∀ (a b : ByteArray), allI [a, b] = itemsB a ++ itemsB b := fun a b => by simp [allI]
    have a1 : ∀ a : ByteArray, allI [a] = itemsB a := fun a => by simp [allI]
    refine stay_of ?_ ?_
    · rw [allI_append, allI_append, hasT_append, hasT_append, a1, al, p1]
    · rw [allI_append, allI_append, hasT_append, hasT_append, a1, al, p2]
  have e2 : stayS (getS fs kConn ++ [⟨#[120, 44, 32, 99, 108, 111, 115, 101]⟩]) mi = false := by
    unfold stayS
    rw [allI_append, hasT_append, show hasT (allI [⟨#[120, 44, 32, 99, 108, 111, 115, 101]⟩]) cClose = true by kernel_rfl, Bool.or_true]
    rfl
  rw [e1, e2, if_pos (by simp), if_neg (by decide)]
  rcases hi with rfl | rfl
  · rw [if_pos rfl]
  · rw [if_neg (by decide)]
    have e3 := stay_at ⟨#[]⟩ ⟨#[]⟩ ⟨#[]⟩ 0 1 [] [] [] (by simp) (by intro z hz; cases hz) (by simp) (by intro z hz; cases hz) (by rfl) (by intro z hz; cases hz)
    rw [List.append_nil] at e3
    rw [e3]
    rfl
theorem FrameStays_ok (l : List Int) (hl : l.length * 1 ≤ 140737488351232) (hw : ∀ x ∈ l, (Lit.int .u8 x).wf = true) (a1 : Int) (h1 : (Lit.int .u8 a1).wf = true) (a2 : Int) (h2 : (Lit.int .u8 a2).wf = true) (b : Bool) : ∃ k, lockagelaw07_FrameStays.f k l a1 a2 b = some true :=
  FrameStays_pure l a1 a2 b (by simp [maxLen]; omega) hl hw h1 h2
end Go.Proofs.YtljppmpigijgaaaDoor.P
