/- Several parts together: Plain facts about the plain functions of header fields: small letters, trimming, names, cutting; lists of bytes alone; What the printed functions of header fields come to: names, values, what a name has; plain Lean, no program; What the reference functions of header fields come to: small letters, what a name has; plain Lean, no program; What the reference's comparing and dropping come to; plain Lean, no program; What the reference functions of header fields come to, of any texts: names, blanks, trimming, values; plain Lean, no program; What the reference's Value and Items come to, of any texts; plain Lean, no program; What lockagelaw06.Made comes to: a right head of at most six fields, names and values from two lists; plain Lean, no program; What lockagelaw06.Made comes to where it makes an answer; plain Lean, no program; What chapter 15's functions and the reference's come to: digits, names of what goes one hop, what is left; plain Lean, no program; What is sent on comes to the same in the program and in the reference; plain Lean, no program; The laws ForwardAny and ForwardMade answer true; plain Lean, no program; The contract of head.Right's look at the fields: slices.ContainsFunc with the function of a field that may not be; May a head be: head.Right and the reference's Right come to the same, of any head; plain Lean, no program; The law ForwardHops answers true; plain Lean, no program; The law ForwardTwice answers true; plain Lean, no program. -/
import Derived.Test.YthmpfncidpjnjaaDoorHZA
import Derived.Test.YthmpfncidpjnjaaDoorHZB
import Derived.Test.YthmpfncidpjnjaaDoorPx3
import Derived.Lib.LazyBuf
import Derived.Test.YthmpfncidpjnjaaDoorPx5
import Derived.Test.YthmpfncidpjnjaaDoorPx4
import Derived.Test.YthmpfncidpjnjaaDoorPx6
import Derived.Test.YthmpfncidpjnjaaDoorPx10
import Derived.Test.YthmpfncidpjnjaaDoorHK
import Derived.OpenShut
import Derived.Test.YthmpfncidpjnjaaDoorHV1
import Derived.Lib.ItoaLen
import Derived.Test.YthmpfncidpjnjaaDoorHV2
import Derived.Test.YthmpfncidpjnjaaDoorHZO
import Derived.Deep.RegionWith
import Derived.Test.YthmpfncidpjnjaaDoorPx13
namespace Go.Proofs.YthmpfncidpjnjaaDoor.Sp
theorem lowC_idem (c : UInt8) : lowC (lowC c) = lowC c := by
  unfold lowC
  by_cases h : 65 ≤ c ∧ c ≤ 90
  · have h1 : (decide (65 ≤ c) && decide (c ≤ 90)) = true := by simp [h]
    have h2 : ¬ (65 ≤ c + 32 ∧ c + 32 ≤ 90) := by
      obtain ⟨a, b⟩ := h
      rw [UInt8.le_iff_toNat_le] at a b
      rw [UInt8.le_iff_toNat_le, UInt8.le_iff_toNat_le, UInt8.toNat_add]
      simp at a b ⊢
      omega
    simp only [h1, if_true]
    rw [if_neg (by simpa using h2)]
  · have h1 : (decide (65 ≤ c) && decide (c ≤ 90)) = false := by simpa using h
    simp only [h1, Bool.false_eq_true, if_false]
theorem lower_idem (l : List UInt8) : lower (lower l) = lower l := by
  unfold lower
  rw [List.map_map]
  exact List.map_congr_left fun c _ => lowC_idem c
theorem lower_length (l : List UInt8) : (lower l).length = l.length := by unfold lower; rw [List.length_map]

theorem dropWhile_last {p : UInt8 → Bool} : ∀ {l : List UInt8} {b : UInt8}, (l.dropWhile p).getLast? = some b → l.getLast? = some b
  | [], _, h => by simp at h
  | c :: l, b, h => by
    rw [List.dropWhile_cons] at h
    split at h
    · have := dropWhile_last h
      rw [List.getLast?_cons, this]
      rfl
    · exact h
theorem right_fix {cs l : List UInt8} (h : ∀ b, l.getLast? = some b → cs.contains b = false) : Lib.trimRightS l cs = l := by
  unfold Lib.trimRightS
  rw [← List.head?_reverse] at h
  have e : l.reverse.dropWhile (cs.contains ·) = l.reverse := by
    cases hr : l.reverse with
    | nil => rfl
    | cons b t =>
      rw [hr] at h
      rw [List.dropWhile_cons, if_neg (by rw [h b rfl]; exact Bool.false_ne_true)]
  rw [e, List.reverse_reverse]
theorem right_last {cs l : List UInt8} {b : UInt8} (h : (Lib.trimRightS l cs).getLast? = some b) : cs.contains b = false := by
  unfold Lib.trimRightS at h
  rw [List.getLast?_reverse] at h
  have := List.head?_dropWhile_not (cs.contains ·) l.reverse
  rw [h] at this
  exact this
theorem left_idem (cs l : List UInt8) : Lib.trimLeftS (Lib.trimLeftS l cs) cs = Lib.trimLeftS l cs := by
  unfold Lib.trimLeftS
  cases h : l.dropWhile (cs.contains ·) with
  | nil => rfl
  | cons b t =>
    have := List.head?_dropWhile_not (cs.contains ·) l
    rw [h] at this
    rw [List.dropWhile_cons, if_neg]
    intro e
    have h2 : cs.contains b = false := this
    rw [h2] at e
    exact Bool.false_ne_true e
theorem trim_idem (l : List UInt8) : trim (trim l) = trim l := by
  unfold trim Lib.trimS
  rw [right_fix (l := Lib.trimLeftS (Lib.trimRightS l [32, 9]) [32, 9])]
  · exact left_idem _ _
  · intro b hb
    exact right_last (dropWhile_last hb)
theorem dropWhile_snoc {p : UInt8 → Bool} {c : UInt8} (hc : p c = true) : ∀ l : List UInt8, (l ++ [c]).dropWhile p = if (l.dropWhile p).isEmpty then [] else l.dropWhile p ++ [c]
  | [] => by simp [hc]
  | b :: l => by
    rw [List.cons_append, List.dropWhile_cons, List.dropWhile_cons]
    split
    · exact dropWhile_snoc hc l
    · simp
theorem trim_blank {c : UInt8} (hc : ([32, 9] : List UInt8).contains c = true) (l : List UInt8) : trim (c :: l) = trim l := by
  unfold trim Lib.trimS
  have e : Lib.trimRightS (c :: l) [32, 9] = if (Lib.trimRightS l [32, 9]).isEmpty then [] else c :: Lib.trimRightS l [32, 9] := by
    unfold Lib.trimRightS
    rw [List.reverse_cons, dropWhile_snoc (p := (([32, 9] : List UInt8).contains ·)) hc, List.isEmpty_reverse]
    split
    · rfl
    · rw [List.reverse_append]
      rfl
  rw [e]
  split
  · rename_i h
    rw [List.isEmpty_iff] at h
    rw [h]
  · unfold Lib.trimLeftS
    rw [List.dropWhile_cons, if_pos hc]
theorem trim_length (l : List UInt8) : (trim l).length ≤ l.length := by
  unfold trim Lib.trimS Lib.trimLeftS Lib.trimRightS
  have h1 := (List.dropWhile_sublist (l := (l.reverse.dropWhile (([32, 9] : List UInt8).contains ·)).reverse) (([32, 9] : List UInt8).contains ·)).length_le
  have h2 := (List.dropWhile_sublist (l := l.reverse) (([32, 9] : List UInt8).contains ·)).length_le
  rw [List.length_reverse] at h1 h2
  exact Nat.le_trans h1 h2
theorem nameC_not {c : UInt8} (h : nameC c = true) : c ≠ 58 := by rintro rfl; exact absurd h (by decide)
theorem cutL_length (c : UInt8) (l : List UInt8) : (cutL c l).length ≤ l.length := by
  unfold cutL
  split
  · exact (List.takeWhile_sublist _).length_le
  · exact Nat.le_refl _
theorem cutR_length (c : UInt8) (l : List UInt8) : (cutR c l).length ≤ l.length := by
  unfold cutR
  split
  · rw [List.length_drop]
    have := (List.dropWhile_sublist (l := l) (· != c)).length_le
    omega
  · simp
theorem take_to {c : UInt8} : ∀ {l r : List UInt8}, c ∉ l → (l ++ c :: r).takeWhile (· != c) = l
  | [], r, _ => by simp
  | b :: l, r, h => by
    have hb : (b != c) = true := by
      simp only [List.mem_cons, not_or] at h
      simp only [bne_iff_ne]
      exact fun e => h.1 e.symm
    rw [List.cons_append, List.takeWhile_cons, if_pos hb, take_to fun e => h (List.mem_cons_of_mem _ e)]
theorem drop_to {c : UInt8} : ∀ {l r : List UInt8}, c ∉ l → (l ++ c :: r).dropWhile (· != c) = c :: r
  | [], r, _ => by simp
  | b :: l, r, h => by
    have hb : (b != c) = true := by
      simp only [List.mem_cons, not_or] at h
      simp only [bne_iff_ne]
      exact fun e => h.1 e.symm
    rw [List.cons_append, List.dropWhile_cons, if_pos hb, drop_to fun e => h (List.mem_cons_of_mem _ e)]
theorem cutL_at {c : UInt8} {l r : List UInt8} (h : c ∉ l) : cutL c (l ++ c :: r) = l := by
  unfold cutL
  rw [if_pos (by simp), take_to h]
theorem cutR_at {c : UInt8} {l r : List UInt8} (h : c ∉ l) : cutR c (l ++ c :: r) = r := by
  unfold cutR
  rw [if_pos (by simp), drop_to h]
  rfl
theorem cutIs_at {c : UInt8} {l r : List UInt8} : cutIs c (l ++ c :: r) = true := by
  unfold cutIs
  simp
theorem name_no_colon {l : List UInt8} (h : nameB l = true) : (58 : UInt8) ∉ l := by
  unfold nameB allB at h
  simp only [Bool.and_eq_true, List.all_eq_true] at h
  exact fun e => nameC_not (h.2.2 _ e) rfl
theorem name_length {l : List UInt8} (h : nameB l = true) : l.length ≤ 40 := by
  unfold nameB at h
  simp only [Bool.and_eq_true, decide_eq_true_eq] at h
  exact h.2.1
theorem val_length {l : List UInt8} (h : valB l = true) : l.length ≤ 200 := by
  unfold valB at h
  simp only [Bool.and_eq_true, decide_eq_true_eq] at h
  exact h.1
theorem val_trim {l : List UInt8} (h : valB l = true) : trim l = l := by
  unfold valB at h
  simp only [Bool.and_eq_true, beq_iff_eq] at h
  exact h.2.1
end Go.Proofs.YthmpfncidpjnjaaDoor.Sp
namespace Go.Proofs.YthmpfncidpjnjaaDoor.P
open Go.RowKit Go.Proofs.YthmpfncidpjnjaaDoorW.PrintWords Go.Proofs.YthmpfncidpjnjaaDoorW.PrintLast Go.Proofs.YthmpfncidpjnjaaDoorW.PrintMore

theorem size_data (s : ByteArray) : s.data.toList.length = s.size := by rw [Array.length_toList]; rfl
theorem name_f {a : ByteArray} (h : a.size ≤ 9223372036854775806) : field_Name.f a = some (Sp.nameB a.data.toList) := by unfold field_Name.f; rw [if_pos h]
theorem value_f {a : ByteArray} (h : a.size ≤ 9223372036854775806) : field_Value.f a = some (Sp.valB a.data.toList) := by unfold field_Value.f; rw [if_pos h]
theorem trim_f {a : ByteArray} (h : a.size ≤ 9223372036854775806) : field_Trim.f a = some ⟨(Sp.trim a.data.toList).toArray⟩ := by unfold field_Trim.f; rw [if_pos h]
theorem lower_f {a : ByteArray} (h : a.size ≤ 9223372036854775806) : field_Lower.f a = some ⟨(Sp.lower a.data.toList).toArray⟩ := by unfold field_Lower.f; rw [if_pos h]
theorem mk_size (l : List UInt8) : (⟨l.toArray⟩ : ByteArray).size = l.length := by show l.toArray.size = _; rw [List.size_toArray]
theorem toList_data (a : ByteArray) : a.toList = a.data.toList := ByteArray.toList_eq a
/-- The texts under a name, in their order. -/
def getS (l : List S28) (a : ByteArray) : List ByteArray := (l.filter fun x => Sp.lower x.f0.data.toList == Sp.lower a.data.toList).map (·.f1)
theorem getS_length (l : List S28) (a : ByteArray) : (getS l a).length ≤ l.length := by
  unfold getS
  rw [List.length_map]
  exact List.length_filter_le _ _
theorem field_Get_at (l : List S28) (a : ByteArray) (hl : l.length < 4398046511104) (ha : a.size ≤ 9223372036854775806) (hn : ∀ x ∈ l, x.f0.size ≤ 9223372036854775806) :
    ∀ (d i k : Nat) (acc : List ByteArray), l.length - i = d → i ≤ l.length → acc.length ≤ i → d + 1 ≤ k → field_Get.l0 k a acc l (l.length : Int) i = some (acc ++ getS (l.drop i) a)
  | d, i, 0, acc, hd, hi, hacc, hk => by omega
  | d, i, k + 1, acc, hd, hi, hacc, hk => by
    unfold field_Get.l0
    by_cases hlt : i < l.length
    · rw [if_pos (by omega), if_pos (by omega), if_pos (by omega)]
      have hx : rd_T28 l (i : Int) = l[i] := by simp [rd_T28, hlt]
      have hs := hn l[i] (List.getElem_mem hlt)
      have ew : wrap64 ((i : Int) + 1) = ((i + 1 : Nat) : Int) := by unfold wrap64; omega
      rw [hx, lower_f hs, lower_f ha, ew]
      simp only [Option.bind_some]
      have ed : l.drop i = l[i] :: l.drop (i + 1) := List.drop_eq_getElem_cons hlt
      have eg : getS (l.drop i) a = (if (Sp.lower l[i].f0.data.toList == Sp.lower a.data.toList) = true then [l[i].f1] else []) ++ getS (l.drop (i + 1)) a := by
        rw [ed]
        unfold getS
        rw [List.filter_cons]
        split <;> simp
      rw [eg]
      by_cases c : Sp.lower l[i].f0.data.toList = Sp.lower a.data.toList
      · rw [if_pos (by rw [toList_data, toList_data]; simpa using c), if_pos (by omega), if_pos (by simpa using c)]
        rw [field_Get_at l a hl ha hn (d - 1) (i + 1) k _ (by omega) (by omega) (by simp; omega) (by omega), List.append_assoc]
      · rw [if_neg (by rw [toList_data, toList_data]; simpa using c), if_neg (by simpa using c)]
        rw [field_Get_at l a hl ha hn (d - 1) (i + 1) k _ (by omega) (by omega) (by omega) (by omega), List.nil_append]
    · rw [if_neg (by omega), List.drop_of_length_le (by omega)]
      simp [getS]
theorem field_Get_ev (l : List S28) (a : ByteArray) (hl : l.length < 4398046511104) (ha : a.size ≤ 9223372036854775806) (hn : ∀ x ∈ l, x.f0.size ≤ 9223372036854775806) (k : Nat) (hk : l.length + 1 ≤ k) :
    field_Get.f k l a = some (getS l a) := by
  unfold field_Get.f
  have := field_Get_at l a hl ha hn l.length 0 k [] (by omega) (by omega) (by simp) hk
  simpa using this
end Go.Proofs.YthmpfncidpjnjaaDoor.P
namespace Go.Proofs.YthmpfncidpjnjaaDoor.P
open Go.RowKit Go.Proofs.YthmpfncidpjnjaaDoorW.PrintWords Go.Proofs.YthmpfncidpjnjaaDoorW.PrintLast Go.Proofs.YthmpfncidpjnjaaDoorW.PrintMore

theorem wrap_next (n : Nat) (h : n < 8796093022208) : wrap64 ((n : Int) + 1) = ((n + 1 : Nat) : Int) := by unfold wrap64; omega
theorem bt_low {x : ByteArray} {i : Nat} (h : i < x.size) : bt x (i : Int) = ((x.data.toList[i]'(by rw [size_data]; exact h)).toNat : Int) := by
  unfold bt
  rw [dif_pos (by simpa using h)]
  rfl
theorem one_byte (c : UInt8) : (strOfNums [(c.toNat : Int)]) = ⟨#[c]⟩ := by
  have := Lib.Lz.strOfNums_map [c]
  simpa using this
theorem low_num (c : UInt8) (h : 65 ≤ (c.toNat : Int)) (h' : (c.toNat : Int) ≤ 90) : ((c.toNat : Int) + 32) % 256 = ((Sp.lowC c).toNat : Int) := by
  unfold Sp.lowC
  have h1 : (65 : UInt8) ≤ c := by rw [UInt8.le_iff_toNat_le]; simp; omega
  have h2 : c ≤ (90 : UInt8) := by rw [UInt8.le_iff_toNat_le]; simp; omega
  rw [if_pos (by simp [h1, h2]), UInt8.toNat_add]
  simp
theorem low_same (c : UInt8) (h : ¬ (65 ≤ (c.toNat : Int) ∧ (c.toNat : Int) ≤ 90)) : Sp.lowC c = c := by
  unfold Sp.lowC
  rw [if_neg]
  intro e
  simp only [Bool.and_eq_true, decide_eq_true_eq] at e
  obtain ⟨h1, h2⟩ := e
  rw [UInt8.le_iff_toNat_le] at h1 h2
  simp at h1 h2
  omega
theorem Low_at (x : ByteArray) (hx : x.size ≤ 9223372036854775806) :
    ∀ (d i k : Nat) (acc : ByteArray), x.size - i = d → i ≤ x.size → acc.size ≤ i → d + 1 ≤ k → lockageref05_Lower.l0 k x acc i = some ⟨(acc.data.toList ++ Sp.lower (x.data.toList.drop i)).toArray⟩
  | d, i, 0, acc, hd, hi, hacc, hk => by omega
  | d, i, k + 1, acc, hd, hi, hacc, hk => by
    unfold lockageref05_Lower.l0
    by_cases hlt : i < x.size
    · rw [if_pos (by omega), if_pos (by omega)]
      have hl : i < x.data.toList.length := by rw [size_data]; exact hlt
      have ew : wrap64 ((i : Int) + 1) = ((i + 1 : Nat) : Int) := by unfold wrap64; omega
      have ed : x.data.toList.drop i = x.data.toList[i] :: x.data.toList.drop (i + 1) := List.drop_eq_getElem_cons hl
      have go : ∀ c : UInt8, Sp.lowC (x.data.toList[i]) = c → (if acc.size + (strOfNums [(c.toNat : Int)]).size ≤ 9223372036854775807 then lockageref05_Lower.l0 k x (acc ++ strOfNums [(c.toNat : Int)]) (wrap64 ((i : Int) + 1)) else none) = some ⟨(acc.data.toList ++ Sp.lower (x.data.toList.drop i)).toArray⟩ := by
        intro c hc
        have s1 : (⟨#[c]⟩ : ByteArray).size = 1 := rfl
        rw [one_byte, if_pos (by omega), ew, Low_at x hx (d - 1) (i + 1) k _ (by omega) (by omega) (by rw [ByteArray.size_append]; omega) (by omega), ed]
        have e1 : Sp.lower (x.data.toList[i] :: x.data.toList.drop (i + 1)) = c :: Sp.lower (x.data.toList.drop (i + 1)) := by rw [← hc]; rfl
        have e2 : (acc ++ (⟨#[c]⟩ : ByteArray)).data.toList = acc.data.toList ++ [c] := by rw [ByteArray.data_append]; simp
        rw [e1, e2, List.append_assoc]
        rfl
      rw [bt_low hlt]
      simp only [Option.bind_some]
      by_cases h1 : (x.data.toList[i].toNat : Int) ≥ 65
      · rw [if_pos h1]
        by_cases h2 : (x.data.toList[i].toNat : Int) ≤ 90
        · rw [if_pos h2, low_num _ h1 h2]
          exact go _ rfl
        · rw [if_neg h2]
          exact go _ (low_same _ (by omega))
      · rw [if_neg h1]
        exact go _ (low_same _ (by omega))
    · rw [if_neg (by omega), List.drop_of_length_le (by rw [size_data]; omega)]
      have : (⟨(acc.data.toList ++ Sp.lower []).toArray⟩ : ByteArray) = acc := H.ba_ext (by simp [Sp.lower])
      rw [this]
theorem Low_ev (x : ByteArray) (hx : x.size ≤ 9223372036854775806) (k : Nat) (hk : x.size + 1 ≤ k) : lockageref05_Lower.f k x = some ⟨(Sp.lower x.data.toList).toArray⟩ := by
  unfold lockageref05_Lower.f
  have := Low_at x hx x.size 0 k ⟨#[]⟩ (by omega) (by omega) (by decide) (by omega)
  simpa using this
theorem RefGet_at (B : Nat) (hB : B ≤ 9223372036854775806) (l : List S28) (a : ByteArray) (hl : l.length < 4398046511104) (ha : a.size ≤ B) (hn : ∀ x ∈ l, x.f0.size ≤ B) :
    ∀ (d i k : Nat) (acc : List ByteArray), l.length - i = d → i ≤ l.length → acc.length ≤ i → d + B + 2 ≤ k → lockageref05_Get.l0 k l a acc i = some (acc ++ getS (l.drop i) a)
  | d, i, 0, acc, hd, hi, hacc, hk => by omega
  | d, i, k + 1, acc, hd, hi, hacc, hk => by
    unfold lockageref05_Get.l0
    by_cases hlt : i < l.length
    · rw [if_pos (by omega), if_pos (by omega)]
      have hx : rd_T28 l (i : Int) = l[i] := by simp [rd_T28, hlt]
      have hs := hn l[i] (List.getElem_mem hlt)
      have ew : wrap64 ((i : Int) + 1) = ((i + 1 : Nat) : Int) := by unfold wrap64; omega
      rw [hx, Low_ev _ (by omega) k (by omega), Low_ev a (by omega) k (by omega), ew]
      simp only [Option.bind_some]
      have ed : l.drop i = l[i] :: l.drop (i + 1) := List.drop_eq_getElem_cons hlt
      have eg : getS (l.drop i) a = (if (Sp.lower l[i].f0.data.toList == Sp.lower a.data.toList) = true then [l[i].f1] else []) ++ getS (l.drop (i + 1)) a := by
        rw [ed]
        unfold getS
        rw [List.filter_cons]
        split <;> simp
      rw [eg]
      by_cases c : Sp.lower l[i].f0.data.toList = Sp.lower a.data.toList
      · rw [if_pos (by rw [toList_data, toList_data]; simpa using c), if_pos (by omega), if_pos (by simpa using c)]
        rw [RefGet_at B hB l a hl ha hn (d - 1) (i + 1) k _ (by omega) (by omega) (by simp; omega) (by omega), List.append_assoc]
      · rw [if_neg (by rw [toList_data, toList_data]; simpa using c), if_neg (by simpa using c)]
        rw [RefGet_at B hB l a hl ha hn (d - 1) (i + 1) k _ (by omega) (by omega) (by omega) (by omega), List.nil_append]
    · rw [if_neg (by omega), List.drop_of_length_le (by omega)]
      simp [getS]
theorem RefGet_ev (B : Nat) (hB : B ≤ 9223372036854775806) (l : List S28) (a : ByteArray) (hl : l.length < 4398046511104) (ha : a.size ≤ B) (hn : ∀ x ∈ l, x.f0.size ≤ B) (k : Nat) (hk : l.length + B + 2 ≤ k) :
    lockageref05_Get.f k l a = some (getS l a) := by
  unfold lockageref05_Get.f
  have := RefGet_at B hB l a hl ha hn l.length 0 k [] (by omega) (by omega) (by simp) hk
  simpa using this
end Go.Proofs.YthmpfncidpjnjaaDoor.P
namespace Go.Proofs.YthmpfncidpjnjaaDoor.P
open Go.RowKit Go.Proofs.YthmpfncidpjnjaaDoorW.PrintWords Go.Proofs.YthmpfncidpjnjaaDoorW.PrintLast Go.Proofs.YthmpfncidpjnjaaDoorW.PrintMore
theorem Strings_at (l : List ByteArray) (hl : l.length < 4398046511104) :
    ∀ (d i k : Nat), l.length - i = d → i ≤ l.length → d + 1 ≤ k → lockageref05_Strings.l0 k l l i = some true
  | d, i, 0, hd, hi, hk => by omega
  | d, i, k + 1, hd, hi, hk => by
    unfold lockageref05_Strings.l0
    by_cases hlt : i < l.length
    · have ew : wrap64 ((i : Int) + 1) = ((i + 1 : Nat) : Int) := by unfold wrap64; omega
      rw [if_pos (by omega), if_pos (by omega), if_pos (by omega), if_pos rfl, ew]
      exact Strings_at l hl (d - 1) (i + 1) k (by omega) (by omega) (by omega)
    · rw [if_neg (by omega)]
theorem Strings_ev (l : List ByteArray) (hl : l.length < 4398046511104) (k : Nat) (hk : l.length + 1 ≤ k) : lockageref05_Strings.f k l l = some true := by
  unfold lockageref05_Strings.f
  rw [if_pos rfl]
  exact Strings_at l hl l.length 0 k (by omega) (by omega) hk
theorem Same_at (l : List S28) (hl : l.length < 4398046511104) :
    ∀ (d i k : Nat), l.length - i = d → i ≤ l.length → d + 1 ≤ k → lockageref05_Same.l0 k l l i = some true
  | d, i, 0, hd, hi, hk => by omega
  | d, i, k + 1, hd, hi, hk => by
    unfold lockageref05_Same.l0
    by_cases hlt : i < l.length
    · have ew : wrap64 ((i : Int) + 1) = ((i + 1 : Nat) : Int) := by unfold wrap64; omega
      rw [if_pos (by omega), if_pos (by omega), if_pos (by omega), if_neg (by simp), ew]
      exact Same_at l hl (d - 1) (i + 1) k (by omega) (by omega) (by omega)
    · rw [if_neg (by omega)]
theorem Same_ev (l : List S28) (hl : l.length < 4398046511104) (k : Nat) (hk : l.length + 1 ≤ k) : lockageref05_Same.f k l l = some true := by
  unfold lockageref05_Same.f
  rw [if_pos rfl]
  exact Same_at l hl l.length 0 k (by omega) (by omega) hk
theorem any_drop (l1 : List ByteArray) (f : ByteArray) (j : Nat) (h : j < l1.length) : (l1.drop j).any (H.sameName f) = (H.sameName f l1[j] || (l1.drop (j + 1)).any (H.sameName f)) := by
  rw [List.drop_eq_getElem_cons h, List.any_cons]
theorem RefDrop_in (B : Nat) (hB : B ≤ 9223372036854775806) (l : List S28) (l1 : List ByteArray) (hl : l.length < 4398046511104) (hl1 : l1.length < 8796093022208) (hn : ∀ x ∈ l, x.f0.size ≤ B) (hn1 : ∀ x ∈ l1, x.size ≤ B)
    (acc : List S28) (i : Nat) (hi : i < l.length) (hacc : acc.length ≤ i) (K : Nat) (hK : B + 1 ≤ K) (R : List S28)
    (hR : ∀ k, K ≤ k → lockageref05_Drop.l0 k l l1 (acc ++ (if keeps l1 l[i] = true then [l[i]] else [])) ((i + 1 : Nat) : Int) = some R) :
    ∀ (d j k : Nat) (b : Bool), l1.length - j = d → j ≤ l1.length → (b && !((l1.drop j).any (H.sameName l[i].f0))) = keeps l1 l[i] → d + 1 + K ≤ k → lockageref05_Drop.l1 k l l1 acc i b j = some R
  | d, j, 0, b, hd, hj, hb, hk => by omega
  | d, j, k + 1, b, hd, hj, hb, hk => by
    unfold lockageref05_Drop.l1
    have hx : rd_T28 l (i : Int) = l[i] := by simp [rd_T28, hi]
    have hs := hn l[i] (List.getElem_mem hi)
    by_cases hlt : j < l1.length
    · have hy : rdOf ByteArray.empty l1 (j : Int) = l1[j] := by simp [rdOf, hlt]
      have hs1 := hn1 l1[j] (List.getElem_mem hlt)
      rw [if_pos (by omega), hx, hy, wrap_next j (by omega)]
      rw [any_drop _ _ _ hlt] at hb
      cases b with
      | false =>
        rw [if_neg (by decide)]
        exact RefDrop_in B hB l l1 hl hl1 hn hn1 acc i hi hacc K hK R hR (d - 1) (j + 1) k false (by omega) (by omega) (by simpa using hb) (by omega)
      | true =>
        rw [if_pos rfl, if_pos (by omega), if_pos (by omega), Low_ev _ (by omega) k (by omega)]
        simp only [Option.bind_some]
        rw [if_pos (by omega), Low_ev _ (by omega) k (by omega)]
        simp only [Option.bind_some]
        refine RefDrop_in B hB l l1 hl hl1 hn hn1 acc i hi hacc K hK R hR (d - 1) (j + 1) k _ (by omega) (by omega) ?_ (by omega)
        rw [← hb, toList_data, toList_data]
        show ((Sp.lower l[i].f0.data.toList != Sp.lower l1[j].data.toList) && _) = _
        unfold H.sameName
        have : (Sp.lower l[i].f0.data.toList != Sp.lower l1[j].data.toList) = !(Sp.lower l1[j].data.toList == Sp.lower l[i].f0.data.toList) := by
          rw [bne, Bool.beq_comm]
        rw [this]
        simp [Bool.not_or]
    · rw [if_neg (by omega), hx]
      rw [List.drop_of_length_le (by omega)] at hb
      simp only [List.any_nil, Bool.not_false, Bool.and_true] at hb
      have h2 := hR k (by omega)
      rw [← hb] at h2
      cases b with
      | true =>
        rw [if_pos rfl, if_pos (by omega), if_pos (by omega), if_pos (by omega), wrap_next i (by omega)]
        exact h2
      | false =>
        rw [if_neg (by decide), wrap_next i (by omega)]
        simpa using h2
theorem RefDrop_at (B : Nat) (hB : B ≤ 9223372036854775806) (l : List S28) (l1 : List ByteArray) (hl : l.length < 4398046511104) (hl1 : l1.length < 8796093022208) (hn : ∀ x ∈ l, x.f0.size ≤ B) (hn1 : ∀ x ∈ l1, x.size ≤ B) :
    ∀ (d i k : Nat) (acc : List S28), l.length - i = d → i ≤ l.length → acc.length ≤ i → d * (l1.length + 2) + B + 2 ≤ k → lockageref05_Drop.l0 k l l1 acc i = some (acc ++ (l.drop i).filter (keeps l1))
  | d, i, 0, acc, hd, hi, hacc, hk => by omega
  | 0, i, k + 1, acc, hd, hi, hacc, hk => by
    unfold lockageref05_Drop.l0
    rw [if_neg (by omega), List.drop_of_length_le (by omega)]
    simp
  | d + 1, i, k + 1, acc, hd, hi, hacc, hk => by
    have hlt : i < l.length := by omega
    have hm : (d + 1) * (l1.length + 2) = d * (l1.length + 2) + (l1.length + 2) := Nat.succ_mul _ _
    unfold lockageref05_Drop.l0
    rw [if_pos (by omega)]
    have ed : l.drop i = l[i] :: l.drop (i + 1) := List.drop_eq_getElem_cons hlt
    have ef : acc ++ (l.drop i).filter (keeps l1) = (acc ++ (if keeps l1 l[i] = true then [l[i]] else [])) ++ (l.drop (i + 1)).filter (keeps l1) := by
      rw [ed, List.filter_cons]
      split <;> simp
    rw [ef]
    refine RefDrop_in B hB l l1 hl hl1 hn hn1 acc i hlt hacc (d * (l1.length + 2) + B + 2) (by omega) _ (fun k' hk' => ?_) l1.length 0 k true (by omega) (by omega) (by simp [keeps]) (by omega)
    refine RefDrop_at B hB l l1 hl hl1 hn hn1 d (i + 1) k' _ (by omega) (by omega) ?_ hk'
    split <;> simp <;> omega
theorem RefDrop_ev (B : Nat) (hB : B ≤ 9223372036854775806) (l : List S28) (l1 : List ByteArray) (hl : l.length < 4398046511104) (hl1 : l1.length < 8796093022208) (hn : ∀ x ∈ l, x.f0.size ≤ B) (hn1 : ∀ x ∈ l1, x.size ≤ B) (k : Nat) (hk : l.length * (l1.length + 2) + B + 2 ≤ k) :
    lockageref05_Drop.f k l l1 = some (l.filter (keeps l1)) := by
  unfold lockageref05_Drop.f
  have := RefDrop_at B hB l l1 hl hl1 hn hn1 l.length 0 k [] (by omega) (by omega) (by simp) hk
  simpa using this
theorem Drop_f (l0 : List S28) (l1 : List ByteArray) (h0 : ∀ x ∈ l0, x.f0.size ≤ 9223372036854775806) (h1 : ∀ x ∈ l1, x.size ≤ 9223372036854775806) (n0 : l0.length < 4398046511104) (n1 : l1.length < 4398046511104) : field_Drop.f l0 l1 = some (l0.filter (keeps l1)) := by
  unfold field_Drop.f
  rw [if_pos]
  simp only [Bool.and_eq_true, decide_eq_true_eq, smallB, List.all_eq_true, List.mem_map]
  refine ⟨?_, h1, n0, n1⟩
  rintro x ⟨y, hy, rfl⟩
  exact h0 y hy
end Go.Proofs.YthmpfncidpjnjaaDoor.P
namespace Go.Proofs.YthmpfncidpjnjaaDoor.P
open Go.RowKit Go.Proofs.YthmpfncidpjnjaaDoorW.PrintWords Go.Proofs.YthmpfncidpjnjaaDoorW.PrintLast Go.Proofs.YthmpfncidpjnjaaDoorW.PrintMore
theorem byte_all {p : Nat → Bool} (h : ((List.range 256).all p) = true) (c : UInt8) : p c.toNat = true := by
  rw [List.all_eq_true] at h
  exact h c.toNat (List.mem_range.2 c.toNat_lt)
theorem byte_back (c : UInt8) : UInt8.ofNat c.toNat = c := by simp
theorem tchar_ev (c : UInt8) (k : Nat) (hk : 40 ≤ k) : lockageref05_tchar.f k (c.toNat : Int) = some (Sp.nameC c) := by
  have h : ((List.range 256).all fun n => lockageref05_tchar.f 40 (n : Int) == some (Sp.nameC (UInt8.ofNat n))) = true := by kernel_rfl
  have := byte_all h c
  rw [byte_back] at this
  exact at_rounds (lockageref05_tchar.mono _) hk (by simpa using this)
theorem blank_ev (c : UInt8) : lockageref05_blank.f (c.toNat : Int) = some (([32, 9] : List UInt8).contains c) := by
  have h : ((List.range 256).all fun n => lockageref05_blank.f (n : Int) == some (([32, 9] : List UInt8).contains (UInt8.ofNat n))) = true := by kernel_rfl
  have := byte_all h c
  rw [byte_back] at this
  simpa using this
theorem wrap_nx (n : Nat) (h : n ≤ 9223372036854775806) : wrap64 ((n : Int) + 1) = ((n + 1 : Nat) : Int) := by unfold wrap64; omega
theorem RefName_at (x : ByteArray) (hx : x.size ≤ 9223372036854775806) (d : Nat) :
    ∀ (i k : Nat), x.size - i = d → i ≤ x.size → d + 50 ≤ k → lockageref05_Name.l0 k x i = some (Sp.allB Sp.nameC (x.data.toList.drop i) && (!x.data.toList.isEmpty && decide (x.data.toList.length ≤ 40))) := by
  have hsz := size_data x
  induction d with
  | zero =>
    intro i k hd hi hk
    obtain ⟨k, rfl⟩ : ∃ j, k = j + 1 := ⟨k - 1, by omega⟩
    unfold lockageref05_Name.l0
    rw [if_neg (by omega), List.drop_of_length_le (by omega), toList_data]
    by_cases h : x.data.toList = []
    · rw [if_pos h, h]
      rfl
    · rw [if_neg h]
      have e1 : x.data.toList.isEmpty = false := by simpa using h
      have e2 : decide ((x.size : Int) ≤ 40) = decide (x.data.toList.length ≤ 40) := by rw [hsz]; exact decide_eq_decide.2 (by omega)
      rw [e1, e2]
      rfl
  | succ d ih =>
    intro i k hd hi hk
    obtain ⟨k, rfl⟩ : ∃ j, k = j + 1 := ⟨k - 1, by omega⟩
    have hlt : i < x.size := by omega
    have hl : i < x.data.toList.length := by omega
    have ed : x.data.toList.drop i = x.data.toList[i] :: x.data.toList.drop (i + 1) := List.drop_eq_getElem_cons hl
    unfold lockageref05_Name.l0
    rw [if_pos (by omega), if_pos (by omega), bt_low hlt, tchar_ev _ k (by omega), ed]
    simp only [Option.bind_some]
    have ea : Sp.allB Sp.nameC (x.data.toList[i] :: x.data.toList.drop (i + 1)) = (Sp.nameC x.data.toList[i] && Sp.allB Sp.nameC (x.data.toList.drop (i + 1))) := rfl
    rw [ea]
    cases hc : Sp.nameC x.data.toList[i] with
    | true =>
      rw [if_pos rfl, wrap_nx i (by omega), ih (i + 1) k (by omega) (by omega) (by omega), Bool.true_and]
    | false =>
      rw [if_neg (by decide), Bool.false_and, Bool.false_and]
theorem RefName_ev (x : ByteArray) (hx : x.size ≤ 9223372036854775806) (k : Nat) (hk : x.size + 50 ≤ k) : lockageref05_Name.f k x = some (Sp.nameB x.data.toList) := by
  unfold lockageref05_Name.f
  have := RefName_at x hx x.size 0 k (Nat.sub_zero _) (Nat.zero_le _) hk
  rw [List.drop_zero] at this
  rw [show lockageref05_Name.l0 k x 0 = _ from this]
  unfold Sp.nameB
  rw [Bool.and_comm, Bool.and_assoc]
theorem right_snoc (l : List UInt8) (b : UInt8) : Lib.trimRightS (l ++ [b]) [32, 9] = if ([32, 9] : List UInt8).contains b = true then Lib.trimRightS l [32, 9] else l ++ [b] := by
  unfold Lib.trimRightS
  rw [List.reverse_append]
  show (List.dropWhile (([32, 9] : List UInt8).contains ·) (b :: l.reverse)).reverse = _
  rw [List.dropWhile_cons]
  split
  · rfl
  · rw [List.reverse_cons, List.reverse_reverse]
theorem right_cons (l : List UInt8) (b : UInt8) (hb : ([32, 9] : List UInt8).contains b = false) : Lib.trimRightS (b :: l) [32, 9] = b :: Lib.trimRightS l [32, 9] := by
  unfold Lib.trimRightS
  rw [List.reverse_cons]
  have : ∀ q : List UInt8, (q ++ [b]).dropWhile (([32, 9] : List UInt8).contains ·) = q.dropWhile (([32, 9] : List UInt8).contains ·) ++ [b] := by
    intro q
    induction q with
    | nil => rw [List.nil_append, List.dropWhile_cons, if_neg (by rw [hb]; exact Bool.false_ne_true)]; rfl
    | cons c q ih =>
      rw [List.cons_append, List.dropWhile_cons, List.dropWhile_cons]
      split
      · exact ih
      · rfl
  rw [this, List.reverse_append]
  rfl
theorem trim_swap : ∀ l : List UInt8, Lib.trimRightS (Lib.trimLeftS l [32, 9]) [32, 9] = Sp.trim l
  | [] => rfl
  | b :: l => by
    cases hb : ([32, 9] : List UInt8).contains b with
    | true =>
      rw [Sp.trim_blank hb, ← trim_swap l]
      unfold Lib.trimLeftS
      rw [List.dropWhile_cons, if_pos hb]
    | false =>
      unfold Sp.trim Lib.trimS
      rw [right_cons l b hb]
      unfold Lib.trimLeftS
      rw [List.dropWhile_cons, if_neg (by rw [hb]; exact Bool.false_ne_true), List.dropWhile_cons, if_neg (by rw [hb]; exact Bool.false_ne_true), right_cons l b hb]
theorem Trim_l1 (n : Nat) : ∀ (x : ByteArray) (k : Nat), x.size = n → x.size ≤ 9223372036854775806 → n + 1 ≤ k → lockageref05_Trim.l1 k x = some ⟨(Lib.trimRightS x.data.toList [32, 9]).toArray⟩ := by
  induction n with
  | zero =>
    intro x k hn hx hk
    obtain ⟨k, rfl⟩ : ∃ j, k = j + 1 := ⟨k - 1, by omega⟩
    have hsz := size_data x
    have e : x.data.toList = [] := List.eq_nil_of_length_eq_zero (by omega)
    unfold lockageref05_Trim.l1
    rw [if_neg (by omega), e]
    exact congrArg some (H.ba_ext (by rw [e]; rfl))
  | succ n ih =>
    intro x k hn hx hk
    obtain ⟨k, rfl⟩ : ∃ j, k = j + 1 := ⟨k - 1, by omega⟩
    have hsz := size_data x
    have hlt : n < x.size := by omega
    have ew : wrap64 ((x.size : Int) - 1) = (n : Int) := by rw [hn]; unfold wrap64; omega
    have hsp : x.data.toList = x.data.toList.take n ++ [x.data.toList[n]'(by omega)] := by
      have := List.take_append_getElem (l := x.data.toList) (i := n) (by omega)
      rw [this, List.take_of_length_le (by omega)]
    have hex : (x.extract 0 n).data.toList = x.data.toList.take n := by
      rw [Lib.extract_data]
      simp
    have hes : (x.extract 0 n).size = n := by rw [← size_data, hex, List.length_take]; omega
    unfold lockageref05_Trim.l1
    rw [ew, if_pos (by omega), if_pos (by omega), if_pos (by omega), bt_low hlt, blank_ev]
    simp only [Option.bind_some]
    rw [if_pos (show (n : Int) ≤ (x.size : Int) by omega), Int.toNat_natCast]
    generalize hb : x.data.toList[n]'(by omega) = b at hsp ⊢
    have er := right_snoc (x.data.toList.take n) b
    rw [← hsp] at er
    rw [er]
    split
    · rw [ih _ k hes (by omega) (by omega), hex]
    · exact congrArg some (H.ba_ext (by simp))
theorem Trim_l0 (n : Nat) : ∀ (x : ByteArray) (k : Nat), x.size = n → x.size ≤ 9223372036854775806 → 2 * n + 5 ≤ k → lockageref05_Trim.l0 k x = some ⟨(Sp.trim x.data.toList).toArray⟩ := by
  induction n with
  | zero =>
    intro x k hn hx hk
    obtain ⟨k, rfl⟩ : ∃ j, k = j + 2 := ⟨k - 2, by omega⟩
    have hsz := size_data x
    have e : x.data.toList = [] := List.eq_nil_of_length_eq_zero (by omega)
    unfold lockageref05_Trim.l0
    rw [if_neg (by omega)]
    unfold lockageref05_Trim.j1
    dsimp only
    rw [Trim_l1 0 x k hn hx (by omega), e]
    rfl
  | succ n ih =>
    intro x k hn hx hk
    obtain ⟨k, rfl⟩ : ∃ j, k = j + 2 := ⟨k - 2, by omega⟩
    have hsz := size_data x
    have hlt : 0 < x.size := by omega
    have hl0 : 0 < x.data.toList.length := by omega
    have hsp : x.data.toList = x.data.toList[0] :: x.data.toList.drop 1 := by
      have := List.drop_eq_getElem_cons hl0
      rw [List.drop_zero] at this
      exact this
    have hex : (x.extract 1 x.size).data.toList = x.data.toList.drop 1 := Lib.extract_to_end x 1
    have hes : (x.extract 1 x.size).size = n := by rw [← size_data, hex, List.length_drop]; omega
    have hbt := bt_low (x := x) (i := 0) hlt
    have hbl := blank_ev (x.data.toList[0])
    unfold lockageref05_Trim.l0
    rw [if_pos (by omega), if_pos (by omega)]
    rw [show bt x 0 = _ from hbt, hbl]
    simp only [Option.bind_some]
    rw [if_pos (show (1 : Int) ≤ (x.size : Int) by omega)]
    generalize x.data.toList[0] = b at hsp ⊢
    cases hb : ([32, 9] : List UInt8).contains b with
    | true =>
      rw [if_pos rfl, ih _ (k + 1) hes (by omega) (by omega), hex, hsp, Sp.trim_blank hb]
      rfl
    | false =>
      rw [if_neg (by decide)]
      unfold lockageref05_Trim.j1
      dsimp only
      rw [Trim_l1 (n + 1) x k hn hx (by omega), ← trim_swap x.data.toList]
      have : Lib.trimLeftS x.data.toList [32, 9] = x.data.toList := by
        rw [hsp]
        unfold Lib.trimLeftS
        rw [List.dropWhile_cons, if_neg (by rw [hb]; exact Bool.false_ne_true)]
      rw [this]
theorem RefTrim_ev (x : ByteArray) (hx : x.size ≤ 9223372036854775806) (k : Nat) (hk : 2 * x.size + 5 ≤ k) : lockageref05_Trim.f k x = some ⟨(Sp.trim x.data.toList).toArray⟩ := Trim_l0 x.size x k rfl hx hk
end Go.Proofs.YthmpfncidpjnjaaDoor.P
namespace Go.Proofs.YthmpfncidpjnjaaDoor.P
open Go.RowKit Go.Proofs.YthmpfncidpjnjaaDoorW.PrintWords Go.Proofs.YthmpfncidpjnjaaDoorW.PrintLast Go.Proofs.YthmpfncidpjnjaaDoorW.PrintMore
def badV (c : Int) : Bool := if c = 9 then false else if c < 32 then true else decide (c > 126)
theorem badV_ev (c : UInt8) : badV (c.toNat : Int) = !Sp.valC c := by
  have h : ((List.range 256).all fun n => badV (n : Int) == !Sp.valC (UInt8.ofNat n)) = true := by kernel_rfl
  have := byte_all h c
  rw [byte_back] at this
  simpa using this
theorem RefValue_at (x : ByteArray) (hx : x.size ≤ 9223372036854775806) (d : Nat) :
    ∀ (i k : Nat), x.size - i = d → i ≤ x.size → 2 * d + 2 * x.size + 10 ≤ k → lockageref05_Value.l0 k x i = some (Sp.allB Sp.valC (x.data.toList.drop i) && (decide (x.data.toList.length ≤ 200) && (Sp.trim x.data.toList == x.data.toList))) := by
  have hsz := size_data x
  induction d with
  | zero =>
    intro i k hd hi hk
    obtain ⟨k, rfl⟩ : ∃ j, k = j + 1 := ⟨k - 1, by omega⟩
    unfold lockageref05_Value.l0
    rw [if_neg (by omega), List.drop_of_length_le (by omega)]
    by_cases h : (x.size : Int) ≤ 200
    · rw [if_pos h, RefTrim_ev x hx k (by omega), decide_eq_true (by omega : x.data.toList.length ≤ 200)]
      simp only [Option.bind_some]
      rw [toList_data, toList_data]
      rfl
    · rw [if_neg h, decide_eq_false (by omega : ¬ x.data.toList.length ≤ 200)]
      rfl
  | succ d ih =>
    intro i k hd hi hk
    obtain ⟨k, rfl⟩ : ∃ j, k = j + 2 := ⟨k - 2, by omega⟩
    have hlt : i < x.size := by omega
    have hl : i < x.data.toList.length := by omega
    have ed : x.data.toList.drop i = x.data.toList[i] :: x.data.toList.drop (i + 1) := List.drop_eq_getElem_cons hl
    have ea : Sp.allB Sp.valC (x.data.toList[i] :: x.data.toList.drop (i + 1)) = (Sp.valC x.data.toList[i] && Sp.allB Sp.valC (x.data.toList.drop (i + 1))) := rfl
    have hj : lockageref05_Value.l0 (k + 2) x i = lockageref05_Value.j1 (k + 1) x i (badV (x.data.toList[i].toNat : Int)) := by
      unfold lockageref05_Value.l0
      rw [if_pos (by omega), if_pos (by omega), bt_low hlt]
      unfold badV
      split
      · rfl
      · split <;> rfl
    rw [hj, badV_ev, ed, ea]
    unfold lockageref05_Value.j1
    cases hc : Sp.valC x.data.toList[i] with
    | true =>
      rw [if_neg (by decide), wrap_nx i (by omega), ih (i + 1) k (by omega) (by omega) (by omega), Bool.true_and]
    | false =>
      rw [if_pos (by decide), Bool.false_and, Bool.false_and]
theorem RefValue_ev (x : ByteArray) (hx : x.size ≤ 9223372036854775806) (k : Nat) (hk : 4 * x.size + 10 ≤ k) : lockageref05_Value.f k x = some (Sp.valB x.data.toList) := by
  unfold lockageref05_Value.f
  have := RefValue_at x hx x.size 0 k (Nat.sub_zero _) (Nat.zero_le _) (by omega)
  rw [List.drop_zero] at this
  rw [show lockageref05_Value.l0 k x 0 = _ from this]
  unfold Sp.valB
  rw [Bool.and_comm, Bool.and_assoc]
def kept2 (ps : List (List UInt8)) : List ByteArray := ((ps.map fun p => Sp.lower (Sp.trim p)).filter fun p => !p.isEmpty).map H.mkB
theorem kept2_cons (p : List UInt8) (ps : List (List UInt8)) : kept2 (p :: ps) = (if (Sp.lower (Sp.trim p)).isEmpty = true then [] else [H.mkB (Sp.lower (Sp.trim p))]) ++ kept2 ps := by
  unfold kept2
  rw [List.map_cons, List.filter_cons]
  cases (Sp.lower (Sp.trim p)).isEmpty <;> simp
theorem parts_at {q r : List UInt8} (h : (44 : UInt8) ∉ q) : Sp.parts 44 (q ++ 44 :: r) = q :: Sp.parts 44 r := by
  rw [H.parts_some (by simp), Sp.take_to h, Sp.drop_to h]
  rfl
theorem Items_j1 (x : ByteArray) (hx : x.size ≤ 4294967280) (acc : List ByteArray) (fr i k : Nat) (hf : fr ≤ i) (hi : i ≤ x.size) (hk : 2 * x.size + 20 ≤ k) (ha : acc.length ≤ i) (R : List ByteArray)
    (hR : lockageref05_Items.l0 k x (acc ++ kept2 [(x.data.toList.drop fr).take (i - fr)]) ((i + 1 : Nat) : Int) ((i + 1 : Nat) : Int) = some R) :
    lockageref05_Items.j1 (k + 1) x acc fr i false = some R := by
  have hsz := size_data x
  have hex : (x.extract fr i).data.toList = (x.data.toList.drop fr).take (i - fr) := Lib.extract_data x fr i
  have hes : (x.extract fr i).size ≤ x.size := by rw [← size_data, hex, List.length_take, List.length_drop]; omega
  unfold lockageref05_Items.j1
  rw [if_neg (by decide), if_pos (by omega), if_pos (by omega), if_pos (by omega), Int.toNat_natCast, Int.toNat_natCast, RefTrim_ev _ (by omega) k (by omega)]
  simp only [Option.bind_some]
  have ht := Sp.trim_length (x.extract fr i).data.toList
  rw [size_data] at ht
  rw [Low_ev _ (by rw [mk_size]; omega) k (by rw [mk_size]; omega)]
  simp only [Option.bind_some]
  rw [toList_data, wrap_nx i (by omega)]
  rw [kept2_cons, ← hex] at hR
  show (if Sp.lower (Sp.trim (x.extract fr i).data.toList) = [] then _ else _) = _
  by_cases h : Sp.lower (Sp.trim (x.extract fr i).data.toList) = []
  · rw [if_pos h]
    rw [if_pos (by rw [h]; rfl)] at hR
    simpa [kept2] using hR
  · rw [if_neg h, if_pos (by omega)]
    rw [if_neg (by simpa using h)] at hR
    simpa [kept2, H.mkB] using hR
theorem RefItems_at (x : ByteArray) (hx : x.size ≤ 4294967280) (d : Nat) :
    ∀ (fr i k : Nat) (acc : List ByteArray), x.size - i = d → fr ≤ i → i ≤ x.size → (44 : UInt8) ∉ (x.data.toList.drop fr).take (i - fr) → acc.length ≤ i → 2 * d + 2 * x.size + 30 ≤ k →
      lockageref05_Items.l0 k x acc fr i = some (acc ++ kept2 (Sp.parts 44 (x.data.toList.drop fr))) := by
  have hsz := size_data x
  induction d with
  | zero =>
    intro fr i k acc hd hf hi hno ha hk
    obtain ⟨k, rfl⟩ : ∃ j, k = j + 3 := ⟨k - 3, by omega⟩
    have hti : (x.data.toList.drop fr).take (i - fr) = x.data.toList.drop fr := List.take_of_length_le (by rw [List.length_drop]; omega)
    unfold lockageref05_Items.l0
    rw [if_pos (by omega), if_neg (by omega)]
    refine Items_j1 x hx acc fr i (k + 1) hf hi (by omega) ha _ ?_
    unfold lockageref05_Items.l0
    rw [if_neg (by omega), hti]
    rw [hti] at hno
    rw [H.parts_none hno]
  | succ d ih =>
    intro fr i k acc hd hf hi hno ha hk
    obtain ⟨k, rfl⟩ : ∃ j, k = j + 2 := ⟨k - 2, by omega⟩
    have hlt : i < x.size := by omega
    have hl : i < x.data.toList.length := by omega
    unfold lockageref05_Items.l0
    rw [if_pos (by omega), if_pos (by omega), if_pos (by omega), bt_low hlt]
    have hdr : x.data.toList.drop fr = (x.data.toList.drop fr).take (i - fr) ++ x.data.toList[i] :: x.data.toList.drop (i + 1) := by
      have h1 := (List.take_append_drop (i - fr) (x.data.toList.drop fr)).symm
      rw [List.drop_drop, show fr + (i - fr) = i by omega, List.drop_eq_getElem_cons hl] at h1
      exact h1
    by_cases hc : x.data.toList[i] = 44
    · have hb : ((x.data.toList[i].toNat : Int) != 44) = false := by rw [hc]; rfl
      rw [hb]
      refine Items_j1 x hx acc fr i k hf hi (by omega) ha _ ?_
      have hlen : (kept2 [(x.data.toList.drop fr).take (i - fr)]).length ≤ 1 := by
        unfold kept2
        rw [List.length_map]
        exact Nat.le_trans (List.length_filter_le _ _) (by simp)
      rw [ih (i + 1) (i + 1) k _ (by omega) (Nat.le_refl _) (by omega) (by simp) (by rw [List.length_append]; omega) (by omega), List.append_assoc]
      congr 2
      rw [hdr, hc, parts_at hno, List.take_append_of_le_length (by rw [List.length_take, List.length_drop]; omega), List.take_take, Nat.min_self]
      rw [kept2_cons, kept2_cons]
      simp [kept2]
    · have hb : ((x.data.toList[i].toNat : Int) != 44) = true := by
        simp only [bne_iff_ne]
        intro e
        apply hc
        have : x.data.toList[i].toNat = 44 := by omega
        rw [← UInt8.ofNat_toNat (x := x.data.toList[i]), this]
        rfl
      rw [hb]
      unfold lockageref05_Items.j1
      rw [if_pos rfl, wrap_nx i (by omega)]
      refine ih fr (i + 1) k acc (by omega) (by omega) (by omega) ?_ (by omega) (by omega)
      have e1 : (x.data.toList.drop fr).take (i + 1 - fr) = (x.data.toList.drop fr).take (i - fr) ++ [x.data.toList[i]] := by
        rw [show i + 1 - fr = (i - fr) + 1 by omega, List.take_succ_eq_append_getElem (by rw [List.length_drop]; omega), List.getElem_drop]
        congr 2
        congr 1
        omega
      rw [e1]
      intro hm
      rcases List.mem_append.1 hm with hm | hm
      · exact hno hm
      · exact hc (List.mem_singleton.1 hm).symm
theorem RefItems_ev (x : ByteArray) (hx : x.size ≤ 4294967280) (k : Nat) (hk : 4 * x.size + 30 ≤ k) : lockageref05_Items.f k x = some (itemsB x) := by
  unfold lockageref05_Items.f
  have := RefItems_at x hx x.size 0 0 k [] (Nat.sub_zero _) (Nat.le_refl _) (Nat.zero_le _) (by simp) (by simp) (by omega)
  rw [show lockageref05_Items.l0 k x [] 0 0 = _ from this]
  rfl
end Go.Proofs.YthmpfncidpjnjaaDoor.P
namespace Go.Proofs.YthmpfncidpjnjaaDoor.P
open Go.RowKit Go.Proofs.YthmpfncidpjnjaaDoorW.PrintWords Go.Proofs.YthmpfncidpjnjaaDoorW.PrintLast Go.Proofs.YthmpfncidpjnjaaDoorW.PrintMore
def mNames : List ByteArray := [(⟨#[72, 111, 115, 116]⟩ : ByteArray), (⟨#[67, 111, 110, 116, 101, 110, 116, 45, 76, 101, 110, 103, 116, 104]⟩ : ByteArray), (⟨#[84, 114, 97, 110, 115, 102, 101, 114, 45, 69, 110, 99, 111, 100, 105, 110, 103]⟩ : ByteArray), (⟨#[67, 111, 110, 110, 101, 99, 116, 105, 111, 110]⟩ : ByteArray), (⟨#[67, 111, 111, 107, 105, 101]⟩ : ByteArray), (⟨#[86, 97, 114, 121]⟩ : ByteArray), (⟨#[65]⟩ : ByteArray), (⟨#[97, 99, 99, 101, 112, 116]⟩ : ByteArray), (⟨#[82, 97, 110, 103, 101]⟩ : ByteArray), (⟨#[67, 97, 99, 104, 101, 45, 67, 111, 110, 116, 114, 111, 108]⟩ : ByteArray), (⟨#[65, 117, 116, 104, 111, 114, 105, 122, 97, 116, 105, 111, 110]⟩ : ByteArray), (⟨#[88, 45, 70, 111, 114, 119, 97, 114, 100, 101, 100, 45, 70, 111, 114]⟩ : ByteArray), (⟨#[75, 101, 101, 112, 45, 65, 108, 105, 118, 101]⟩ : ByteArray)]
def mVals : List ByteArray := [(⟨#[]⟩ : ByteArray), (⟨#[51]⟩ : ByteArray), (⟨#[99, 104, 117, 110, 107, 101, 100]⟩ : ByteArray), (⟨#[99, 108, 111, 115, 101]⟩ : ByteArray), (⟨#[107, 101, 101, 112, 45, 97, 108, 105, 118, 101, 44, 32, 65]⟩ : ByteArray), (⟨#[97, 44, 32, 98]⟩ : ByteArray), (⟨#[110, 111, 45, 115, 116, 111, 114, 101]⟩ : ByteArray), (⟨#[48]⟩ : ByteArray), (⟨#[120]⟩ : ByteArray), (⟨#[65, 99, 99, 101, 112, 116]⟩ : ByteArray), (⟨#[97, 99, 99, 101, 112, 116, 44, 32, 65]⟩ : ByteArray)]
def mMeths : List ByteArray := [(⟨#[71, 69, 84]⟩ : ByteArray), (⟨#[80, 79, 83, 84]⟩ : ByteArray), (⟨#[72, 69, 65, 68]⟩ : ByteArray), (⟨#[80, 85, 84]⟩ : ByteArray), (⟨#[120, 45, 121]⟩ : ByteArray)]
def mTargs : List ByteArray := [(⟨#[47]⟩ : ByteArray), (⟨#[47, 97, 47, 98]⟩ : ByteArray), (⟨#[47, 97, 63, 120, 61, 49]⟩ : ByteArray), (⟨#[42]⟩ : ByteArray), (⟨#[47, 37, 52, 49]⟩ : ByteArray)]
theorem rdOf_mem {l : List ByteArray} {i : Int} (h0 : 0 ≤ i) (h : i < (l.length : Int)) : rdOf ByteArray.empty l i ∈ l := by
  have hl : i.toNat < l.length := by omega
  unfold rdOf
  rw [List.getD_eq_getElem?_getD, List.getElem?_eq_getElem hl]
  exact List.getElem_mem hl
theorem Pick_ok (l : List Int) (hl : l.length ≤ 281474976710656) (hw : ∀ x ∈ l, (Lit.int .u8 x).wf = true) (i n : Nat) (hi : i ≤ 1000) (hn : 0 < n) :
    ∃ r : Int, lockagelaw06_Maker_Pick.f l i n = some (r, ((i + 1 : Nat) : Int)) ∧ 0 ≤ r ∧ r < n := by
  have e1 : wrap64 ((i : Int) + 1) = ((i + 1 : Nat) : Int) := by unfold wrap64; omega
  have e2 : wrap64 (((i + 1 : Nat) : Int) - 1) = (i : Int) := by unfold wrap64; omega
  unfold lockagelaw06_Maker_Pick.f
  rw [e1, e2]
  clear e1 e2
  by_cases h : ((i + 1 : Nat) : Int) > (l.length : Int)
  · rw [if_pos h]
    exact ⟨0, rfl, by omega, by omega⟩
  · have hx : rd l (i : Int) = l[i]'(by omega) := by simp [rd, show i < l.length by omega]
    have hb := bounds_u8 (hw (l[i]'(by omega)) (List.getElem_mem _))
    have ex : wrap64 (l[i]'(by omega)) = l[i]'(by omega) := by
      generalize l[i]'(by omega) = v at hb
      unfold wrap64; omega
    rw [if_neg h, if_pos (by omega), if_pos (by omega), if_neg (by omega), hx, ex]
    exact ⟨_, rfl, Int.tmod_nonneg _ hb.1, Int.tmod_lt_of_pos _ (by omega)⟩
def MFs (l : List S28) : Prop := ∀ x ∈ l, x.f0 ∈ mNames ∧ x.f1 ∈ mVals
theorem Head_l0 (l : List Int) (hl : l.length ≤ 281474976710656) (hw : ∀ x ∈ l, (Lit.int .u8 x).wf = true) (m t s : ByteArray) (st mi : Int) (d : Nat) :
    ∀ (i k : Nat) (acc : List S28), d ≤ 6 → acc.length + d ≤ 6 → i + 2 * d ≤ 900 → d + 1 ≤ k → MFs acc →
      ∃ fs j, lockagelaw06_Maker_Head.l0 k (d : Int) l (i : Int) m t st s mi acc = some (m, t, st, s, mi, fs, j) ∧ fs.length ≤ 6 ∧ MFs fs := by
  induction d with
  | zero =>
    intro i k acc hd ha hi hk hm
    obtain ⟨k, rfl⟩ : ∃ j, k = j + 1 := ⟨k - 1, by omega⟩
    unfold lockagelaw06_Maker_Head.l0
    rw [if_neg (by omega)]
    exact ⟨acc, _, rfl, by omega, hm⟩
  | succ d ih =>
    intro i k acc hd ha hi hk hm
    obtain ⟨k, rfl⟩ : ∃ j, k = j + 1 := ⟨k - 1, by omega⟩
    obtain ⟨r1, p1, a1, b1⟩ := Pick_ok l hl hw i 13 (by omega) (by omega)
    obtain ⟨r2, p2, a2, b2⟩ := Pick_ok l hl hw (i + 1) 11 (by omega) (by omega)
    have hm2 : MFs (acc ++ [(⟨rdOf ByteArray.empty mNames r1, rdOf ByteArray.empty mVals r2⟩ : S28)]) := by
      intro x hx
      rcases List.mem_append.1 hx with hx | hx
      · exact hm x hx
      · obtain rfl := List.mem_singleton.1 hx
        exact ⟨rdOf_mem a1 b1, rdOf_mem a2 b2⟩
    obtain ⟨fs, j, h1, h2, h3⟩ := ih (i + 2) k _ (by omega) (by simp; omega) (by omega) (by omega) hm2
    refine ⟨fs, j, ?_, h2, h3⟩
    have q1 : lockagelaw06_Maker_Pick.f l (i : Int) 13 = some (r1, ((i + 1 : Nat) : Int)) := p1
    have q2 : lockagelaw06_Maker_Pick.f l ((i + 1 : Nat) : Int) 11 = some (r2, ((i + 2 : Nat) : Int)) := p2
    have e1 : wrap64 (((d + 1 : Nat) : Int) - 1) = (d : Int) := by unfold wrap64; omega
    have c1 : ((d + 1 : Nat) : Int) > 0 := by omega
    have c2 : acc.length < 4398046511104 := by omega
    clear p1 p2 hm2 ih hm hi hk ha hd
    simp only [mNames, mVals] at h1
    unfold lockagelaw06_Maker_Head.l0
    simp only [Option.bind_some, List.length_cons, List.length_nil, Nat.zero_add, Nat.reduceAdd, if_pos c1, q1, q2, if_pos a1, if_pos b1, if_pos a2, if_pos b2, if_pos c2, e1]
    exact h1
theorem Head_j0 (l : List Int) (hl : l.length ≤ 281474976710656) (hw : ∀ x ∈ l, (Lit.int .u8 x).wf = true) (m t s : ByteArray) (st mi : Int) (i k : Nat) (hi : i ≤ 100) (hk : 20 ≤ k) :
    ∃ fs j, lockagelaw06_Maker_Head.j0 k l (i : Int) m t st s mi = some (m, t, st, s, mi, fs, j) ∧ fs.length ≤ 6 ∧ MFs fs := by
  obtain ⟨k, rfl⟩ : ∃ j, k = j + 1 := ⟨k - 1, by omega⟩
  obtain ⟨r, p, a, b⟩ := Pick_ok l hl hw i 7 (by omega) (by omega)
  obtain ⟨d, rfl⟩ := Int.eq_ofNat_of_zero_le a
  obtain ⟨fs, j, h1, h2, h3⟩ := Head_l0 l hl hw m t s st mi d (i + 1) k [] (by omega) (by simp; omega) (by omega) (by omega) (fun x hx => by cases hx)
  refine ⟨fs, j, ?_, h2, h3⟩
  unfold lockagelaw06_Maker_Head.j0
  dsimp only
  have q : lockagelaw06_Maker_Pick.f l (i : Int) 7 = some ((d : Int), ((i + 1 : Nat) : Int)) := p
  rw [q]
  simp only [Option.bind_some]
  exact h1
theorem Made_false (l : List Int) (hl : l.length ≤ 281474976710656) (hw : ∀ x ∈ l, (Lit.int .u8 x).wf = true) :
    ∃ m t mi fs, (∀ k, 20 ≤ k → lockagelaw06_Made.f k l false = some (m, t, 0, ⟨#[]⟩, mi, fs)) ∧ m ∈ mMeths ∧ t ∈ mTargs ∧ (mi = 0 ∨ mi = 1) ∧ fs.length ≤ 6 ∧ MFs fs := by
  obtain ⟨r1, p1, a1, b1⟩ := Pick_ok l hl hw 0 2 (by omega) (by omega)
  obtain ⟨r2, p2, a2, b2⟩ := Pick_ok l hl hw 1 5 (by omega) (by omega)
  obtain ⟨r3, p3, a3, b3⟩ := Pick_ok l hl hw 2 5 (by omega) (by omega)
  obtain ⟨fs, j, h1, h2, h3⟩ := Head_j0 l hl hw (rdOf ByteArray.empty mMeths r2) (rdOf ByteArray.empty mTargs r3) ⟨#[]⟩ 0 (wrap64 (1 - r1)) 3 20 (by omega) (by omega)
  refine ⟨rdOf ByteArray.empty mMeths r2, rdOf ByteArray.empty mTargs r3, wrap64 (1 - r1), fs, fun k hk => at_rounds (lockagelaw06_Made.mono l false) hk ?_, rdOf_mem a2 b2, rdOf_mem a3 b3, ?_, h2, h3⟩
  · unfold lockagelaw06_Made.f lockagelaw06_Maker_Head.f
    have q1 : lockagelaw06_Maker_Pick.f l 0 2 = some (r1, 1) := p1
    have q2 : lockagelaw06_Maker_Pick.f l 1 5 = some (r2, 2) := p2
    have q3 : lockagelaw06_Maker_Pick.f l 2 5 = some (r3, 3) := p3
    have q4 : lockagelaw06_Maker_Head.j0 20 l 3 (rdOf ByteArray.empty mMeths r2) (rdOf ByteArray.empty mTargs r3) 0 ⟨#[]⟩ (wrap64 (1 - r1)) = some (rdOf ByteArray.empty mMeths r2, rdOf ByteArray.empty mTargs r3, 0, ⟨#[]⟩, wrap64 (1 - r1), fs, j) := h1
    rw [q1]
    simp only [Option.bind_some]
    rw [if_neg (by decide), q2]
    simp only [Option.bind_some]
    simp only [List.length_cons, List.length_nil, Nat.zero_add, Nat.reduceAdd]
    rw [if_pos a2, if_pos b2, q3]
    simp only [Option.bind_some]
    rw [if_pos a3, if_pos b3]
    simp only [mMeths, mTargs] at q4
    rw [q4]
    rfl
  · have : r1 = 0 ∨ r1 = 1 := by omega
    rcases this with rfl | rfl
    · exact .inr (by unfold wrap64; omega)
    · exact .inl (by unfold wrap64; omega)
theorem meths_good : ∀ m ∈ mMeths, Sp.nameB m.data.toList = true ∧ m.size ≤ 100 := by
  have h : (mMeths.all fun m => Sp.nameB m.data.toList && decide (m.size ≤ 100)) = true := by kernel_rfl
  intro m hm
  have := List.all_eq_true.1 h m hm
  simpa using this
theorem names_good : ∀ m ∈ mNames, Sp.nameB m.data.toList = true ∧ m.size ≤ 100 := by
  have h : (mNames.all fun m => Sp.nameB m.data.toList && decide (m.size ≤ 100)) = true := by kernel_rfl
  intro m hm
  have := List.all_eq_true.1 h m hm
  simpa using this
theorem vals_good : ∀ m ∈ mVals, Sp.valB m.data.toList = true ∧ m.size ≤ 100 := by
  have h : (mVals.all fun m => Sp.valB m.data.toList && decide (m.size ≤ 100)) = true := by kernel_rfl
  intro m hm
  have := List.all_eq_true.1 h m hm
  simpa using this
end Go.Proofs.YthmpfncidpjnjaaDoor.P
namespace Go.Proofs.YthmpfncidpjnjaaDoor.P
open Go.RowKit Go.Proofs.YthmpfncidpjnjaaDoorW.PrintWords Go.Proofs.YthmpfncidpjnjaaDoorW.PrintLast Go.Proofs.YthmpfncidpjnjaaDoorW.PrintMore
def mStats : List Int := [200, 404, 304, 204, 100, 599, 503]
def mReas : List ByteArray := [(⟨#[79, 75]⟩ : ByteArray), (⟨#[]⟩ : ByteArray), (⟨#[78, 111, 116, 32, 70, 111, 117, 110, 100]⟩ : ByteArray), (⟨#[97, 9, 98]⟩ : ByteArray)]
theorem rd_mem {l : List Int} {i : Int} (h0 : 0 ≤ i) (h : i < (l.length : Int)) : rd l i ∈ l := by
  have hl : i.toNat < l.length := by omega
  unfold rd
  rw [List.getD_eq_getElem?_getD, List.getElem?_eq_getElem hl]
  exact List.getElem_mem hl
theorem Made_true (l : List Int) (hl : l.length ≤ 281474976710656) (hw : ∀ x ∈ l, (Lit.int .u8 x).wf = true) :
    ∃ st s mi fs, (∀ k, 20 ≤ k → lockagelaw06_Made.f k l true = some (⟨#[]⟩, ⟨#[]⟩, st, s, mi, fs)) ∧ st ∈ mStats ∧ s ∈ mReas ∧ (mi = 0 ∨ mi = 1) ∧ fs.length ≤ 6 ∧ MFs fs := by
  obtain ⟨r1, p1, a1, b1⟩ := Pick_ok l hl hw 0 2 (by omega) (by omega)
  obtain ⟨r2, p2, a2, b2⟩ := Pick_ok l hl hw 1 7 (by omega) (by omega)
  obtain ⟨r3, p3, a3, b3⟩ := Pick_ok l hl hw 2 4 (by omega) (by omega)
  obtain ⟨fs, j, h1, h2, h3⟩ := Head_j0 l hl hw ⟨#[]⟩ ⟨#[]⟩ (rdOf ByteArray.empty mReas r3) (rd mStats r2) (wrap64 (1 - r1)) 3 20 (by omega) (by omega)
  refine ⟨rd mStats r2, rdOf ByteArray.empty mReas r3, wrap64 (1 - r1), fs, fun k hk => at_rounds (lockagelaw06_Made.mono l true) hk ?_, rd_mem a2 b2, rdOf_mem a3 b3, ?_, h2, h3⟩
  · unfold lockagelaw06_Made.f lockagelaw06_Maker_Head.f
    have q1 : lockagelaw06_Maker_Pick.f l 0 2 = some (r1, 1) := p1
    have q2 : lockagelaw06_Maker_Pick.f l 1 7 = some (r2, 2) := p2
    have q3 : lockagelaw06_Maker_Pick.f l 2 4 = some (r3, 3) := p3
    have q4 : lockagelaw06_Maker_Head.j0 20 l 3 ⟨#[]⟩ ⟨#[]⟩ (rd mStats r2) (rdOf ByteArray.empty mReas r3) (wrap64 (1 - r1)) = some (⟨#[]⟩, ⟨#[]⟩, rd mStats r2, rdOf ByteArray.empty mReas r3, wrap64 (1 - r1), fs, j) := h1
    rw [q1]
    simp only [Option.bind_some]
    rw [if_pos trivial, q2]
    simp only [Option.bind_some, List.length_cons, List.length_nil, Nat.zero_add, Nat.reduceAdd]
    rw [if_pos a2, if_pos b2, q3]
    simp only [Option.bind_some]
    rw [if_pos a3, if_pos b3]
    simp only [mStats, mReas] at q4
    rw [q4]
    rfl
  · have : r1 = 0 ∨ r1 = 1 := by omega
    rcases this with rfl | rfl
    · exact .inr (by unfold wrap64; omega)
    · exact .inl (by unfold wrap64; omega)
end Go.Proofs.YthmpfncidpjnjaaDoor.P
namespace Go.Proofs.YthmpfncidpjnjaaDoor.P
open Go.RowKit Go.Proofs.YthmpfncidpjnjaaDoorW.PrintWords Go.Proofs.YthmpfncidpjnjaaDoorW.PrintLast Go.Proofs.YthmpfncidpjnjaaDoorW.PrintMore
/-! ### digits -/
theorem digit16_at (d : Nat) (h : d < 10) : (⟨#[48, 49, 50, 51, 52, 53, 54, 55, 56, 57, 97, 98, 99, 100, 101, 102]⟩ : ByteArray).extract d (d + 1) = ⟨#[UInt8.ofNat (48 + d)]⟩ := by
  have a : ((List.range 10).all fun d => ((⟨#[48, 49, 50, 51, 52, 53, 54, 55, 56, 57, 97, 98, 99, 100, 101, 102]⟩ : ByteArray).extract d (d + 1)).data.toList == [UInt8.ofNat (48 + d)]) = true := by kernel_rfl
  rw [List.all_eq_true] at a
  have := a d (List.mem_range.2 h)
  exact H.ba_ext (by simpa using this)
theorem wrap_m (m : Nat) (h : m < 10) : wrap64 ((m : Int) + 1) = ((m + 1 : Nat) : Int) := by unfold wrap64; omega
theorem wrap_d (m : Nat) (h : m ≤ 9007199254740992) : wrap64 (m : Int) = (m : Int) := by unfold wrap64; omega
theorem num_text (n : Int) (h0 : -9223372036854775808 ≤ n) (h1 : n ≤ 9223372036854775807) : num_Text.f n 10 = some (H.text10 n) ∧ (H.text10 n).size ≤ 30 := by
  refine ⟨by unfold num_Text.f; rw [if_pos rfl, if_pos h0, if_pos h1], ?_⟩
  unfold H.text10
  split
  · rw [mk_size]
    have := Lib.itoa_length_le n h0 h1
    omega
  · decide
/-! ### names of what goes one hop -/
def hop8 : List ByteArray := [(⟨#[99, 111, 110, 110, 101, 99, 116, 105, 111, 110]⟩ : ByteArray), (⟨#[107, 101, 101, 112, 45, 97, 108, 105, 118, 101]⟩ : ByteArray), (⟨#[112, 114, 111, 120, 121, 45, 97, 117, 116, 104, 101, 110, 116, 105, 99, 97, 116, 101]⟩ : ByteArray), (⟨#[112, 114, 111, 120, 121, 45, 97, 117, 116, 104, 111, 114, 105, 122, 97, 116, 105, 111, 110]⟩ : ByteArray), (⟨#[116, 101]⟩ : ByteArray), (⟨#[116, 114, 97, 105, 108, 101, 114]⟩ : ByteArray), (⟨#[116, 114, 97, 110, 115, 102, 101, 114, 45, 101, 110, 99, 111, 100, 105, 110, 103]⟩ : ByteArray), (⟨#[117, 112, 103, 114, 97, 100, 101]⟩ : ByteArray)]
def conB : ByteArray := ⟨#[67, 111, 110, 110, 101, 99, 116, 105, 111, 110]⟩
def conL : ByteArray := ⟨#[99, 111, 110, 110, 101, 99, 116, 105, 111, 110]⟩
def clL : ByteArray := ⟨#[99, 111, 110, 116, 101, 110, 116, 45, 108, 101, 110, 103, 116, 104]⟩
def hopsL (fs : List S28) : List ByteArray := hop8 ++ (getS fs conB).flatMap itemsB
theorem getS_low (fs : List S28) {a b : ByteArray} (h : Sp.lower a.data.toList = Sp.lower b.data.toList) : getS fs a = getS fs b := by unfold getS; rw [h]
theorem getS_mem {fs : List S28} {a v : ByteArray} (h : v ∈ getS fs a) : ∃ x ∈ fs, v = x.f1 := by
  unfold getS at h
  obtain ⟨x, hx, rfl⟩ := List.mem_map.1 h
  exact ⟨x, (List.mem_filter.1 hx).1, rfl⟩
theorem parts_le (c : UInt8) : ∀ (l p : List UInt8), p ∈ Sp.parts c l → p.length ≤ l.length
  | [], p, h => by
    simp [Sp.parts] at h
    simp [h]
  | b :: l, p, h => by
    rw [Sp.parts] at h
    split at h
    · rcases List.mem_cons.1 h with rfl | h
      · simp
      · have := parts_le c l p h; simp; omega
    · split at h
      · rename_i e
        have : p = [b] := by simpa using h
        simp [this]
      · rename_i q r e
        rcases List.mem_cons.1 h with rfl | h
        · have := parts_le c l q (by rw [e]; exact List.mem_cons_self)
          simp; omega
        · have := parts_le c l p (by rw [e]; exact List.mem_cons_of_mem _ h)
          simp; omega
theorem itemsB_size (v x : ByteArray) (h : x ∈ itemsB v) : x.size ≤ v.size := by
  unfold itemsB Sp.items at h
  obtain ⟨l, hl, rfl⟩ := List.mem_map.1 h
  have h2 := (List.mem_filter.1 hl).1
  obtain ⟨p, hp, rfl⟩ := List.mem_map.1 h2
  have h3 := parts_le 44 _ p hp
  have h4 := Sp.trim_length p
  have h5 := Sp.lower_length (Sp.trim p)
  show (⟨_⟩ : ByteArray).size ≤ _
  rw [mk_size]
  rw [size_data] at h3
  omega
theorem items_low (v x : ByteArray) (h : x ∈ itemsB v) : Sp.lower x.data.toList = x.data.toList := by
  unfold itemsB Sp.items at h
  obtain ⟨l, hl, rfl⟩ := List.mem_map.1 h
  have h2 := (List.mem_filter.1 hl).1
  obtain ⟨p, hp, rfl⟩ := List.mem_map.1 h2
  show Sp.lower (Sp.lower (Sp.trim p)) = Sp.lower (Sp.trim p)
  exact Sp.lower_idem _
theorem flat_len (B : Nat) : ∀ g : List ByteArray, (∀ v ∈ g, v.size ≤ B) → (g.flatMap itemsB).length ≤ g.length * (B + 1)
  | [], _ => by simp
  | v :: g, h => by
    have h1 := flat_len B g (fun x hx => h x (List.mem_cons_of_mem _ hx))
    have h2 := items_le v
    have h3 := h v List.mem_cons_self
    rw [List.flatMap_cons, List.length_append, List.length_cons, Nat.succ_mul]
    omega
theorem items_f {v : ByteArray} (h : v.size ≤ 4294967280) : field_Items.f v = some (itemsB v) := by unfold field_Items.f; rw [if_pos h]
theorem Hops_l0 (g : List ByteArray) (hg : ∀ v ∈ g, v.size ≤ 4294967280) (hl : g.length < 4398046511104) :
    ∀ (d i k : Nat) (acc : List ByteArray), g.length - i = d → i ≤ g.length → acc.length + ((g.drop i).flatMap itemsB).length < 8796093022208 → d + 1 ≤ k → forward_Hops.l0 k acc g (g.length : Int) i = some (acc ++ (g.drop i).flatMap itemsB)
  | d, i, 0, acc, hd, hi, ha, hk => by omega
  | d, i, k + 1, acc, hd, hi, ha, hk => by
    unfold forward_Hops.l0
    by_cases hlt : i < g.length
    · have ed : g.drop i = g[i] :: g.drop (i + 1) := List.drop_eq_getElem_cons hlt
      rw [ed, List.flatMap_cons, List.length_append] at ha
      have hx : rdOf ByteArray.empty g (i : Int) = g[i] := by simp [rdOf, hlt]
      rw [if_pos (by omega), if_pos (by omega), if_pos (by omega), hx, items_f (hg _ (List.getElem_mem hlt))]
      simp only [Option.bind_some]
      rw [if_pos (by omega), wrap_next i (by omega), Hops_l0 g hg hl (d - 1) (i + 1) k _ (by omega) (by omega) (by rw [List.length_append]; omega) (by omega), ed, List.flatMap_cons, List.append_assoc]
    · rw [if_neg (by omega), List.drop_of_length_le (by omega)]
      simp
theorem RefHops_l0 (B : Nat) (hB : B ≤ 4294967280) (g : List ByteArray) (hg : ∀ v ∈ g, v.size ≤ B) (hl : g.length < 4398046511104) :
    ∀ (d i k : Nat) (acc : List ByteArray), g.length - i = d → i ≤ g.length → acc.length + ((g.drop i).flatMap itemsB).length < 8796093022208 → d + 4 * B + 31 ≤ k → lockageref15_Hops.l0 k acc g i = some (acc ++ (g.drop i).flatMap itemsB)
  | d, i, 0, acc, hd, hi, ha, hk => by omega
  | d, i, k + 1, acc, hd, hi, ha, hk => by
    unfold lockageref15_Hops.l0
    by_cases hlt : i < g.length
    · have ed : g.drop i = g[i] :: g.drop (i + 1) := List.drop_eq_getElem_cons hlt
      rw [ed, List.flatMap_cons, List.length_append] at ha
      have hx : rdOf ByteArray.empty g (i : Int) = g[i] := by simp [rdOf, hlt]
      have hs := hg _ (List.getElem_mem hlt)
      rw [if_pos (by omega), if_pos (by omega), hx, RefItems_ev _ (by omega) k (by omega)]
      simp only [Option.bind_some]
      rw [if_pos (by omega), wrap_next i (by omega), RefHops_l0 B hB g hg hl (d - 1) (i + 1) k _ (by omega) (by omega) (by rw [List.length_append]; omega) (by omega), ed, List.flatMap_cons, List.append_assoc]
    · rw [if_neg (by omega), List.drop_of_length_le (by omega)]
      simp
/-- Fields that the laws of this chapter meet: not too many, none too long. -/
structure Fit (B : Nat) (fs : List S28) : Prop where
  n : fs.length ≤ 100
  x : ∀ x ∈ fs, x.f0.size ≤ B ∧ x.f1.size ≤ B
  b : B ≤ 4000
theorem Fit.get {B : Nat} {fs : List S28} (h : Fit B fs) (a : ByteArray) : (getS fs a).length ≤ 100 ∧ ∀ v ∈ getS fs a, v.size ≤ B := by
  refine ⟨Nat.le_trans (getS_length _ _) h.n, fun v hv => ?_⟩
  obtain ⟨x, hx, rfl⟩ := getS_mem hv
  exact (h.x x hx).2
theorem Fit.flat {B : Nat} {fs : List S28} (h : Fit B fs) (a : ByteArray) : ((getS fs a).flatMap itemsB).length ≤ 400100 := by
  obtain ⟨h1, h2⟩ := h.get a
  have h3 := flat_len B _ h2
  have h4 : (getS fs a).length * (B + 1) ≤ 100 * 4001 := Nat.mul_le_mul h1 (by have := h.b; omega)
  omega
theorem Fit.hops_len {B : Nat} {fs : List S28} (h : Fit B fs) : (hopsL fs).length ≤ 400108 := by
  have := h.flat conB
  unfold hopsL
  rw [List.length_append]
  have : hop8.length = 8 := rfl
  omega
theorem hop8_size : ∀ x ∈ hop8, x.size ≤ 20 ∧ Sp.lower x.data.toList = x.data.toList := by
  have h : (hop8.all fun x => decide (x.size ≤ 20) && (Sp.lower x.data.toList == x.data.toList)) = true := by kernel_rfl
  intro x hx
  have := List.all_eq_true.1 h x hx
  simpa using this
theorem hops_size {B : Nat} {fs : List S28} (h : Fit B fs) : ∀ x ∈ hopsL fs, x.size ≤ B + 20 := by
  intro x hx
  rcases List.mem_append.1 hx with hx | hx
  · have := (hop8_size x hx).1; omega
  · obtain ⟨v, hv, hx⟩ := List.mem_flatMap.1 hx
    have h1 := itemsB_size v x hx
    have h2 := (h.get conB).2 v hv
    omega
theorem hops_low {fs : List S28} : ∀ x ∈ hopsL fs, Sp.lower x.data.toList = x.data.toList := by
  intro x hx
  rcases List.mem_append.1 hx with hx | hx
  · exact (hop8_size x hx).2
  · obtain ⟨v, hv, hx⟩ := List.mem_flatMap.1 hx
    exact items_low v x hx
theorem Hops_ev {B : Nat} {fs : List S28} (h : Fit B fs) (k : Nat) (hk : 200 ≤ k) : forward_Hops.f k fs = some (hopsL fs) := by
  have hn := h.n
  have hb := h.b
  obtain ⟨h1, h2⟩ := h.get conB
  have hf := h.flat conB
  unfold forward_Hops.f
  rw [field_Get_ev fs _ (by omega) (by decide) (fun x hx => by have := (h.x x hx).1; omega) k (by omega)]
  simp only [Option.bind_some]
  have := Hops_l0 (getS fs conB) (fun v hv => by have := h2 v hv; omega) (by omega) (getS fs conB).length 0 k hop8 (Nat.sub_zero _) (Nat.zero_le _) (by rw [List.drop_zero]; have : hop8.length = 8 := rfl; omega) (by omega)
  rw [List.drop_zero] at this
  exact this
theorem RefHops_ev {B : Nat} {fs : List S28} (h : Fit B fs) (k : Nat) (hk : 20000 ≤ k) : lockageref15_Hops.f k fs = some (hopsL fs) := by
  have hn := h.n
  have hb := h.b
  obtain ⟨h1, h2⟩ := h.get conB
  have hf := h.flat conB
  unfold lockageref15_Hops.f
  rw [RefGet_ev 4000 (by decide) fs _ (by omega) (by decide) (fun x hx => by have := (h.x x hx).1; omega) k (by omega)]
  simp only [Option.bind_some]
  show lockageref15_Hops.l0 k hop8 (getS fs conL) 0 = _
  rw [getS_low fs (show Sp.lower conL.data.toList = Sp.lower conB.data.toList by decide +kernel)]
  have := RefHops_l0 B (by omega) (getS fs conB) h2 (by omega) (getS fs conB).length 0 k hop8 (Nat.sub_zero _) (Nat.zero_le _) (by rw [List.drop_zero]; have : hop8.length = 8 := rfl; omega) (by omega)
  rw [List.drop_zero] at this
  exact this
/-! ### what is left -/
theorem keeps_app (a b : List ByteArray) (x : S28) : keeps (a ++ b) x = (keeps a x && keeps b x) := by unfold keeps; rw [List.any_append, Bool.not_or]
theorem keeps_low {a b : ByteArray} (h : Sp.lower a.data.toList = Sp.lower b.data.toList) (x : S28) : keeps [a] x = keeps [b] x := by unfold keeps H.sameName; simp [h]
theorem filter_app (a b : List ByteArray) (fs : List S28) : fs.filter (keeps (a ++ b)) = (fs.filter (keeps a)).filter (keeps b) := by
  rw [List.filter_filter]
  congr 1
  funext x
  rw [keeps_app, Bool.and_comm]
theorem filter_low {a b : ByteArray} (h : Sp.lower a.data.toList = Sp.lower b.data.toList) (fs : List S28) : fs.filter (keeps [a]) = fs.filter (keeps [b]) := by
  congr 1
  funext x
  exact keeps_low h x
theorem filter_swap (a b : List ByteArray) (fs : List S28) : (fs.filter (keeps a)).filter (keeps b) = (fs.filter (keeps b)).filter (keeps a) := by
  rw [List.filter_filter, List.filter_filter]
  congr 1
  funext x
  exact Bool.and_comm _ _
def stripS (fs : List S28) : List S28 := (fs.filter (keeps (hopsL fs))).filter (keeps [clB])
theorem Fit.filter {B : Nat} {fs : List S28} (h : Fit B fs) (p : S28 → Bool) : Fit B (fs.filter p) := ⟨Nat.le_trans (List.length_filter_le _ _) h.n, fun x hx => h.x x (List.mem_filter.1 hx).1, h.b⟩
theorem Fit.strip {B : Nat} {fs : List S28} (h : Fit B fs) : Fit B (stripS fs) := (h.filter _).filter _
theorem Concat_ev (a b c : List ByteArray) (h : a.length + b.length + c.length < 800000000000) (k : Nat) (hk : 10 ≤ k) : slices_Concat_string_string.f k [a, b, c] = some (a ++ b ++ c) := by
  obtain ⟨k, rfl⟩ : ∃ j, k = j + 10 := ⟨k - 10, by omega⟩
  unfold slices_Concat_string_string.f
  show slices_Concat_string_string.l0 (k + 10) [a, b, c] 0 [a, b, c] 3 0 = _
  have r0 : rd_L1 [a, b, c] 0 = a := rfl
  have r1 : rd_L1 [a, b, c] 1 = b := rfl
  have r2 : rd_L1 [a, b, c] 2 = c := rfl
  have w1 : wrap64 (0 + (a.length : Int)) = (a.length : Int) := by unfold wrap64; omega
  have w2 : wrap64 ((a.length : Int) + (b.length : Int)) = ((a.length + b.length : Nat) : Int) := by unfold wrap64; omega
  have w3 : wrap64 (((a.length + b.length : Nat) : Int) + (c.length : Int)) = ((a.length + b.length + c.length : Nat) : Int) := by unfold wrap64; omega
  have v1 : wrap64 (0 + 1) = 1 := by unfold wrap64; omega
  have v2 : wrap64 (1 + 1) = 2 := by unfold wrap64; omega
  have v3 : wrap64 (2 + 1) = 3 := by unfold wrap64; omega
  have hln : (([a, b, c] : List (List ByteArray)).length : Int) = 3 := rfl
  rw [slices_Concat_string_string.l0, hln, if_pos (by decide), if_pos (by decide), if_pos (by decide), r0, w1, if_neg (by omega), v1]
  rw [slices_Concat_string_string.l0, hln, if_pos (by decide), if_pos (by decide), if_pos (by decide), r1, w2, if_neg (by omega), v2]
  rw [slices_Concat_string_string.l0, hln, if_pos (by decide), if_pos (by decide), if_pos (by decide), r2, w3, if_neg (by omega), v3]
  rw [slices_Concat_string_string.l0, if_neg (by decide)]
  have hg : slices_Grow_string_string.f [] ((a.length + b.length + c.length : Nat) : Int) = some [] := by
    show (if 0 ≤ ((a.length + b.length + c.length : Nat) : Int) then if ((a.length + b.length + c.length : Nat) : Int) * 16 ≤ 140737488355328 then some [] else none else none) = some ([] : List ByteArray)
    rw [if_pos (by omega), if_pos (by omega)]
  rw [hg]
  simp only [Option.bind_some]
  rw [hln]
  rw [slices_Concat_string_string.l1, hln, if_pos (by decide), if_pos (by decide), if_pos (by decide), r0, if_pos (by simp; omega), v1]
  rw [slices_Concat_string_string.l1, hln, if_pos (by decide), if_pos (by decide), if_pos (by decide), r1, if_pos (by simp; omega), v2]
  rw [slices_Concat_string_string.l1, hln, if_pos (by decide), if_pos (by decide), if_pos (by decide), r2, if_pos (by simp; omega), v3]
  rw [slices_Concat_string_string.l1, if_neg (by decide), List.nil_append]
theorem strip_ev {B : Nat} {fs : List S28} (h : Fit B fs) (ns : List ByteArray) (hn : ns.length ≤ 10) (hs : ∀ x ∈ ns, x.size ≤ 100) (k : Nat) (hk : 200 ≤ k) : forward_strip.f k fs ns = some ((stripS fs).filter (keeps ns)) := by
  unfold forward_strip.f
  have h1 := h.hops_len
  have hb := h.b
  have hfn := h.n
  rw [Hops_ev h k hk]
  simp only [Option.bind_some]
  have hcl : ([clB] : List ByteArray).length = 1 := rfl
  rw [Concat_ev _ _ _ (by omega) k (by omega)]
  simp only [Option.bind_some]
  rw [Drop_f fs _ (fun x hx => by have := (h.x x hx).1; omega) (fun x hx => ?_) (by omega) (by rw [List.length_append, List.length_append]; omega)]
  · rw [filter_app, filter_app, filter_swap ns [clB]]
    rfl
  · rcases List.mem_append.1 hx with hx | hx
    · rcases List.mem_append.1 hx with hx | hx
      · have := hops_size h x hx; omega
      · have := hs x hx; omega
    · rw [List.mem_singleton.1 hx]; decide
theorem RefStrip_ev {B : Nat} {fs : List S28} (h : Fit B fs) (k : Nat) (hk : 50000000 ≤ k) : lockageref15_strip.f k fs = some (stripS fs) := by
  unfold lockageref15_strip.f
  have h1 := h.hops_len
  have hb := h.b
  have hfn := h.n
  have hp : fs.length * ((hopsL fs).length + 2) ≤ 100 * 400110 := Nat.mul_le_mul hfn (by omega)
  rw [RefHops_ev h k (by omega)]
  simp only [Option.bind_some]
  rw [RefDrop_ev 4020 (by decide) fs _ (by omega) (by omega) (fun x hx => by have := (h.x x hx).1; omega) (fun x hx => by have := hops_size h x hx; omega) k (by omega)]
  simp only [Option.bind_some]
  have hf := (h.filter (keeps (hopsL fs)))
  have hp2 : (fs.filter (keeps (hopsL fs))).length * (([clL] : List ByteArray).length + 2) ≤ 100 * 3 := Nat.mul_le_mul hf.n (by decide)
  have := RefDrop_ev 4020 (by decide) (fs.filter (keeps (hopsL fs))) [clL] (by have := hf.n; omega) (by decide) (fun x hx => by have := (hf.x x hx).1; omega) (fun x hx => by rw [List.mem_singleton.1 hx]; decide) k (by omega)
  rw [show lockageref05_Drop.f k (fs.filter (keeps (hopsL fs))) [(⟨#[99, 111, 110, 116, 101, 110, 116, 45, 108, 101, 110, 103, 116, 104]⟩ : ByteArray)] = _ from this]
  simp only [Option.bind_some]
  rw [filter_low (a := clL) (b := clB) (by decide +kernel)]
  rfl
end Go.Proofs.YthmpfncidpjnjaaDoor.P
namespace Go.Proofs.YthmpfncidpjnjaaDoor.P
open Go.RowKit Go.Proofs.YthmpfncidpjnjaaDoorW.PrintWords Go.Proofs.YthmpfncidpjnjaaDoorW.PrintLast Go.Proofs.YthmpfncidpjnjaaDoorW.PrintMore
def xffL : ByteArray := ⟨#[120, 45, 102, 111, 114, 119, 97, 114, 100, 101, 100, 45, 102, 111, 114]⟩
def viaB : ByteArray := ⟨#[86, 105, 97]⟩
def cB : ByteArray := ⟨#[99]⟩
theorem xff_low : Sp.lower xffL.data.toList = Sp.lower xffB.data.toList := by decide +kernel
/-- The fields of a request that is sent on. -/
def reqF (fs : List S28) (conn : Int) : List S28 := (stripS fs).filter (keeps [xffB]) ++ [⟨xffB, H.whoAll (getS (stripS fs) xffB) (cB ++ H.text10 conn)⟩]
def viaV (mi : Int) : ByteArray := ((⟨#[49, 46]⟩ : ByteArray) ++ H.text10 mi) ++ (⟨#[32, 108, 111, 99, 107, 97, 103, 101]⟩ : ByteArray)
/-- The fields of an answer that is sent on. -/
def ansF (fs : List S28) (mi : Int) : List S28 := stripS fs ++ [⟨viaB, viaV mi⟩]
def I64 (n : Int) : Prop := -9223372036854775808 ≤ n ∧ n ≤ 9223372036854775807
theorem Request_ev {B : Nat} {fs : List S28} (h : Fit B fs) (conn : Int) (hc : I64 conn) (m t rs body : ByteArray) (st mi : Int) (k : Nat) (hk : 200 ≤ k) :
    forward_Request.f k m t st rs mi fs body conn = some (m, t, st, rs, 1, reqF fs conn, body) := by
  obtain ⟨h1, h2⟩ := num_text conn hc.1 hc.2
  have hb := h.b
  have hs := h.strip
  unfold forward_Request.f
  rw [h1, Option.bind_some, strip_ev h [] (by decide) (by simp) k hk, Option.bind_some]
  have e0 : (stripS fs).filter (keeps []) = stripS fs := List.filter_eq_self.2 fun _ _ => rfl
  have hn := hs.n
  rw [e0, field_Get_ev (stripS fs) xffB (by omega) (by decide) (fun x hx => by have := (hs.x x hx).1; omega) k (by omega), Option.bind_some, if_pos, strip_ev h [xffB] (by decide) (by decide) k hk, Option.bind_some, if_pos]
  · rfl
  · have := (hs.filter (keeps [xffB])).n; omega
  · simp only [Bool.and_eq_true, decide_eq_true_eq, smallT, List.all_eq_true]
    exact ⟨fun v hv => by have := (hs.get xffB).2 v hv; omega, by omega⟩
theorem Answer_ev {B : Nat} {fs : List S28} (h : Fit B fs) (mi : Int) (hm : I64 mi) (m t rs body : ByteArray) (st : Int) (k : Nat) (hk : 200 ≤ k) :
    forward_Answer.f k m t st rs mi fs body = some (m, t, st, rs, 1, ansF fs mi, body) := by
  obtain ⟨h1, h2⟩ := num_text mi hm.1 hm.2
  have hs := h.strip
  have hn := hs.n
  unfold forward_Answer.f
  rw [strip_ev h [] (by decide) (by simp) k hk, Option.bind_some, h1, Option.bind_some]
  have e0 : (stripS fs).filter (keeps []) = stripS fs := List.filter_eq_self.2 fun _ _ => rfl
  have hsz : ((⟨#[49, 46]⟩ : ByteArray) ++ H.text10 mi).size = 2 + (H.text10 mi).size := by rw [ByteArray.size_append]; rfl
  rw [e0, if_pos (by omega), if_pos (by omega), if_pos (by omega)]
  rfl
theorem wrap_sum (a b : Nat) (h : a + b ≤ 100000) : wrap64 (wrap64 ((a : Int) + 2) + (b : Int)) = ((a + 2 + b : Nat) : Int) := by unfold wrap64; omega
theorem wrap_pred (j : Nat) (h : j ≤ 100000) : wrap64 ((j : Int) - 1) = (j : Int) - 1 := by unfold wrap64; omega
theorem sep_size (v acc : ByteArray) : ((v ++ H.sepB) ++ acc).size = v.size + 2 + acc.size := by rw [ByteArray.size_append, ByteArray.size_append]; rfl
theorem step_size (v acc : ByteArray) (h : acc.size ≤ 1000) : (H.whoStep acc v).size ≤ 1000 := by
  unfold H.whoStep
  split
  · rename_i e
    simp only [Bool.and_eq_true, decide_eq_true_eq] at e
    omega
  · exact h
theorem RefSame15_ev (m t rs body : ByteArray) (st mi : Int) (fs : List S28) (hl : fs.length < 1000000) (k : Nat) (hk : 2000000 ≤ k) : lockageref15_Same.f k m t st rs mi fs body m t st rs mi fs body = some true := by
  unfold lockageref15_Same.f
  rw [if_pos rfl, if_pos rfl, if_pos rfl, if_pos rfl, if_pos rfl, if_pos rfl, Same_ev fs (by omega) k (by omega)]
  rfl
theorem reqF_len {B : Nat} {fs : List S28} (h : Fit B fs) (conn : Int) : (reqF fs conn).length ≤ 101 := by
  have := (h.strip.filter (keeps [xffB])).n
  unfold reqF
  rw [List.length_append]
  exact Nat.add_le_add this (Nat.le_refl 1)
theorem ansF_len {B : Nat} {fs : List S28} (h : Fit B fs) (mi : Int) : (ansF fs mi).length ≤ 101 := by
  have := h.strip.n
  unfold ansF
  rw [List.length_append]
  exact Nat.add_le_add this (Nat.le_refl 1)
theorem awake15 (k : Nat) (hk : 300 ≤ k) : lockagelaw15_awake.f k = some true := at_rounds lockagelaw15_awake.mono hk (by kernel_rfl)
end Go.Proofs.YthmpfncidpjnjaaDoor.P
namespace Go.Proofs.YthmpfncidpjnjaaDoor.P
open Go.RowKit Go.Proofs.YthmpfncidpjnjaaDoorW.PrintWords Go.Proofs.YthmpfncidpjnjaaDoorW.PrintLast Go.Proofs.YthmpfncidpjnjaaDoorW.PrintMore
/-! ### ForwardAny -/
def sumF (l : List S28) : Nat := (l.map fun x => x.f0.size + x.f1.size).sum
theorem sumF_take (l : List S28) (k : Nat) (h : k < l.length) : sumF (l.take (k + 1)) = sumF (l.take k) + (l[k].f0.size + l[k].f1.size) := by
  unfold sumF
  rw [List.take_succ_eq_append_getElem h, List.map_append, List.sum_append]
  simp
theorem sumF_mem {x : S28} : ∀ {l : List S28}, x ∈ l → x.f0.size + x.f1.size ≤ sumF l
  | y :: l, h => by
    have e : sumF (y :: l) = (y.f0.size + y.f1.size) + sumF l := by unfold sumF; rw [List.map_cons, List.sum_cons]
    rw [e]
    rcases List.mem_cons.1 h with rfl | h
    · omega
    · have := sumF_mem h
      omega
theorem wrap_two (q a b : Nat) (h : q + a + b ≤ 1000000000000000) : wrap64 (wrap64 ((q : Int) + (a : Int)) + (b : Int)) = ((q + (a + b) : Nat) : Int) := by unfold wrap64; omega
/-! ### ForwardMade -/
theorem Made_any (l : List Int) (hl : l.length ≤ 281474976710656) (hw : ∀ x ∈ l, (Lit.int .u8 x).wf = true) (b : Bool) :
    ∃ m t st s mi fs, (∀ k, 20 ≤ k → lockagelaw06_Made.f k l b = some (m, t, st, s, mi, fs)) ∧ (mi = 0 ∨ mi = 1) ∧ fs.length ≤ 6 ∧ MFs fs := by
  cases b with
  | false =>
    obtain ⟨m, t, mi, fs, h, _, _, h1, h2, h3⟩ := Made_false l hl hw
    exact ⟨m, t, 0, ⟨#[]⟩, mi, fs, h, h1, h2, h3⟩
  | true =>
    obtain ⟨st, s, mi, fs, h, _, _, h1, h2, h3⟩ := Made_true l hl hw
    exact ⟨⟨#[]⟩, ⟨#[]⟩, st, s, mi, fs, h, h1, h2, h3⟩
theorem made_fit {fs : List S28} (hl : fs.length ≤ 6) (h : MFs fs) : Fit 400 fs :=
  ⟨by omega, fun x hx => ⟨by have := (names_good _ (h x hx).1).2; omega, by have := (vals_good _ (h x hx).2).2; omega⟩, by omega⟩
theorem I64_small {n : Int} (h : 0 ≤ n ∧ n ≤ 255) : I64 n := ⟨by omega, by omega⟩
theorem wrap_u8 {n : Int} (h : 0 ≤ n ∧ n ≤ 255) : wrap64 n = n := by unfold wrap64; omega
def last3 (a s : ByteArray) : List S28 := [⟨xffL, a⟩, ⟨xffB, ⟨#[113]⟩⟩, ⟨(⟨#[88, 45, 70, 79, 82, 87, 65, 82, 68, 69, 68, 45, 70, 79, 82]⟩ : ByteArray), s⟩]
theorem I64_wf {n : Int} (h : (Lit.int .i64 n).wf = true) : I64 n := by
  have := bounds_i64 h
  exact ⟨this.1, by omega⟩
end Go.Proofs.YthmpfncidpjnjaaDoor.P
namespace Go.Proofs.YthmpfncidpjnjaaDoor.P
open Go.RowKit Go.Shelf Go.Lib Go.Proofs.YthmpfncidpjnjaaDoorW.PrintWords Go.Proofs.YthmpfncidpjnjaaDoorW.PrintLast Go.Proofs.YthmpfncidpjnjaaDoorW.PrintMore
open H (ret_bool ret_int)
/-- A field that may not be. -/
def badF (x : S28) : Bool := !Sp.nameB x.f0.data.toList || !Sp.valB x.f1.data.toList
def idxQ {α : Type} (p : α → Bool) (l : List α) : Int := match l.findIdx? p with | some k => (k : Int) | none => -1
theorem idxQ_at {α : Type} (d : α) (p : α → Bool) (l : List α) (k : Nat) (hk : k < l.length) (h : ∀ j, j < k → p (l.getD j d) = false) (hp : p (l.getD k d) = true) : idxQ p l = k := by
  have e : l.findIdx? p = some k := by
    rw [List.findIdx?_eq_some_iff_getElem]
    refine ⟨hk, ?_, fun j hj => ?_⟩
    · rw [List.getD_eq_getElem?_getD, List.getElem?_eq_getElem hk] at hp
      exact hp
    · have := h j hj
      rw [List.getD_eq_getElem?_getD, List.getElem?_eq_getElem (by omega)] at this
      simpa using this
  unfold idxQ
  rw [e]
theorem idxQ_none {α : Type} (d : α) (p : α → Bool) (l : List α) (h : ∀ j, j < l.length → p (l.getD j d) = false) : idxQ p l = -1 := by
  have e : l.findIdx? p = none := by
    rw [List.findIdx?_eq_none_iff]
    intro x hx
    obtain ⟨j, hj, rfl⟩ := List.getElem_of_mem hx
    have := h j hj
    rw [List.getD_eq_getElem?_getD, List.getElem?_eq_getElem hj] at this
    exact this
  unfold idxQ
  rw [e]
theorem idxQ_any {α : Type} (p : α → Bool) (l : List α) : decide (0 ≤ idxQ p l) = l.any p := by
  unfold idxQ
  cases e : l.findIdx? p with
  | none =>
    rw [List.findIdx?_eq_none_iff] at e
    have : l.any p = false := by rw [List.any_eq_false]; intro x hx; rw [e x hx]; exact Bool.false_ne_true
    rw [this]; rfl
  | some k =>
    rw [List.findIdx?_eq_some_iff_getElem] at e
    obtain ⟨hk, hp, _⟩ := e
    have : l.any p = true := by rw [List.any_eq_true]; exact ⟨_, List.getElem_mem hk, hp⟩
    rw [this]
    simp
/-- Fields whose texts are no longer than memory is. -/
def smallF (l : List S28) : Bool := l.all fun x => decide (x.f0.size ≤ 9223372036854775806) && decide (x.f1.size ≤ 9223372036854775806)
theorem smallF_at {l : List S28} (h : smallF l = true) (k : Nat) (hk : k < l.length) : (l.getD k z28).f0.size ≤ 9223372036854775807 ∧ (l.getD k z28).f1.size ≤ 9223372036854775807 := by
  unfold smallF at h
  rw [List.all_eq_true] at h
  rw [List.getD_eq_getElem?_getD, List.getElem?_eq_getElem hk]
  have := h _ (List.getElem_mem hk)
  simp only [Bool.and_eq_true, decide_eq_true_eq] at this
  simp only [Option.getD_some]
  omega
end Go.Proofs.YthmpfncidpjnjaaDoor.P
namespace Go.Proofs.YthmpfncidpjnjaaDoor.P
open Go.RowKit Go.Proofs.YthmpfncidpjnjaaDoorW.PrintWords Go.Proofs.YthmpfncidpjnjaaDoorW.PrintLast Go.Proofs.YthmpfncidpjnjaaDoorW.PrintMore
def targC (c : UInt8) : Bool := 33 ≤ c.toNat && c.toNat ≤ 126
def okIn (first : Int) (tab : Bool) (c : Int) : Bool := if c < first then tab && c == 9 else if c > 126 then tab && c == 9 else true
theorem okIn_val (c : UInt8) : okIn 32 true (c.toNat : Int) = Sp.valC c := by
  have h : ((List.range 256).all fun n => okIn 32 true (n : Int) == Sp.valC (UInt8.ofNat n)) = true := by kernel_rfl
  have := byte_all h c
  rw [byte_back] at this
  simpa using this
theorem okIn_targ (c : UInt8) : okIn 33 false (c.toNat : Int) = targC c := by
  have h : ((List.range 256).all fun n => okIn 33 false (n : Int) == targC (UInt8.ofNat n)) = true := by kernel_rfl
  have := byte_all h c
  rw [byte_back] at this
  simpa using this
def reasonS (l : List UInt8) : Bool := decide (l.length ≤ 200) && l.all Sp.valC
def targetS (l : List UInt8) : Bool := !l.isEmpty && (decide (l.length ≤ 200) && l.all targC)
theorem Rfields_at (B : Nat) (hB : B ≤ 9223372036854775806) (fs : List S28) (hl : fs.length < 4398046511104) (hs : ∀ x ∈ fs, x.f0.size ≤ B ∧ x.f1.size ≤ B) (d : Nat) :
    ∀ (i k : Nat), fs.length - i = d → i ≤ fs.length → d + 4 * B + 60 ≤ k → lockageref06_fields.l0 k fs i = some (!(fs.drop i).any badF && decide (fs.length ≤ 20)) := by
  induction d with
  | zero =>
    intro i k hd hi hk
    obtain ⟨k, rfl⟩ : ∃ j, k = j + 1 := ⟨k - 1, by omega⟩
    unfold lockageref06_fields.l0
    rw [if_neg (by omega), List.drop_of_length_le (by omega)]
    exact congrArg some (decide_eq_decide.2 (by omega))
  | succ d ih =>
    intro i k hd hi hk
    obtain ⟨k, rfl⟩ : ∃ j, k = j + 1 := ⟨k - 1, by omega⟩
    have hlt : i < fs.length := by omega
    have hx : rd_T28 fs (i : Int) = fs[i] := by simp [rd_T28, hlt]
    have hm := hs fs[i] (List.getElem_mem hlt)
    unfold lockageref06_fields.l0
    rw [if_pos (by omega), if_pos (by omega), hx, RefName_ev _ (by omega) k (by omega), RefValue_ev _ (by omega) k (by omega), List.drop_eq_getElem_cons hlt, List.any_cons]
    simp only [Option.bind_some]
    have eb : badF fs[i] = (!Sp.nameB fs[i].f0.data.toList || !Sp.valB fs[i].f1.data.toList) := rfl
    rw [eb, wrap_nx i (by omega)]
    cases Sp.nameB fs[i].f0.data.toList with
    | false => rw [if_neg (by decide)]; rfl
    | true =>
      rw [if_pos rfl]
      cases Sp.valB fs[i].f1.data.toList with
      | false => rw [if_neg (by decide)]; rfl
      | true =>
        rw [if_pos rfl, ih (i + 1) k (by omega) (by omega) (by omega)]
        rfl
theorem Rfields_ev (B : Nat) (hB : B ≤ 9223372036854775806) (fs : List S28) (hl : fs.length < 4398046511104) (hs : ∀ x ∈ fs, x.f0.size ≤ B ∧ x.f1.size ≤ B) (k : Nat) (hk : fs.length + 4 * B + 60 ≤ k) :
    lockageref06_fields.f k fs = some (!fs.any badF && decide (fs.length ≤ 20)) := by
  unfold lockageref06_fields.f
  have := Rfields_at B hB fs hl hs fs.length 0 k (Nat.sub_zero _) (Nat.zero_le _) (by omega)
  rw [List.drop_zero] at this
  exact this
end Go.Proofs.YthmpfncidpjnjaaDoor.P
namespace Go.Proofs.YthmpfncidpjnjaaDoor.P
open Go.RowKit Go.Proofs.YthmpfncidpjnjaaDoorW.PrintWords Go.Proofs.YthmpfncidpjnjaaDoorW.PrintLast Go.Proofs.YthmpfncidpjnjaaDoorW.PrintMore
/-! ### values that may be, joined -/
theorem valC_sep : Sp.valC 44 = true ∧ Sp.valC 32 = true := by decide
theorem trimR_append (a b : List UInt8) (hb : b ≠ []) (h : Lib.trimRightS b [32, 9] = b) : Lib.trimRightS (a ++ b) [32, 9] = a ++ b := by
  unfold Lib.trimRightS at *
  rw [List.reverse_append]
  have hr : b.reverse.dropWhile (([32, 9] : List UInt8).contains ·) = b.reverse := by
    have := congrArg List.reverse h
    simpa using this
  cases e : b.reverse with
  | nil => exact absurd (by simpa using e) hb
  | cons c r =>
    rw [e] at hr
    rw [List.dropWhile_cons] at hr
    split at hr
    · rename_i hc
      have h1 := congrArg List.length hr
      have h2 := (List.dropWhile_sublist (l := r) (([32, 9] : List UInt8).contains ·)).length_le
      rw [List.length_cons] at h1
      omega
    · rename_i hc
      rw [List.cons_append, List.dropWhile_cons, if_neg hc]
      rw [← List.cons_append, ← e, List.reverse_append, List.reverse_reverse, List.reverse_reverse]
theorem trimL_append (a b : List UInt8) (ha : a ≠ []) (h : Lib.trimLeftS a [32, 9] = a) : Lib.trimLeftS (a ++ b) [32, 9] = a ++ b := by
  unfold Lib.trimLeftS at *
  cases a with
  | nil => exact absurd rfl ha
  | cons c r =>
    rw [List.dropWhile_cons] at h
    split at h
    · have h1 := congrArg List.length h
      have h2 := (List.dropWhile_sublist (l := r) (([32, 9] : List UInt8).contains ·)).length_le
      rw [List.length_cons] at h1
      omega
    · rename_i hc
      rw [List.cons_append, List.dropWhile_cons, if_neg hc]
theorem trim_parts {l : List UInt8} (h : Sp.trim l = l) : Lib.trimRightS l [32, 9] = l ∧ Lib.trimLeftS l [32, 9] = l := by
  unfold Sp.trim Lib.trimS at h
  have h1 : (Lib.trimLeftS (Lib.trimRightS l [32, 9]) [32, 9]).length ≤ (Lib.trimRightS l [32, 9]).length := (List.dropWhile_sublist _).length_le
  have h2 : (Lib.trimRightS l [32, 9]).length ≤ l.length := by
    unfold Lib.trimRightS
    rw [List.length_reverse]
    have := (List.dropWhile_sublist (l := l.reverse) (([32, 9] : List UInt8).contains ·)).length_le
    rwa [List.length_reverse] at this
  have h3 : Lib.trimRightS l [32, 9] = l := by
    have hs : Lib.trimRightS l [32, 9] <+: l := by
      unfold Lib.trimRightS
      have := List.dropWhile_suffix (l := l.reverse) (([32, 9] : List UInt8).contains ·)
      have h := List.reverse_prefix.2 this
      rwa [List.reverse_reverse] at h
    exact hs.eq_of_length (by have := congrArg List.length h; omega)
  exact ⟨h3, by rw [h3] at h; exact h⟩
theorem val_join {a b : List UInt8} (ha : Sp.valB a = true) (hb : Sp.valB b = true) (na : a ≠ []) (nb : b ≠ []) (hl : a.length + 2 + b.length ≤ 200) : Sp.valB (a ++ [44, 32] ++ b) = true := by
  have ta := (trim_parts (Sp.val_trim ha)).2
  have tb := (trim_parts (Sp.val_trim hb)).1
  unfold Sp.valB Sp.allB at *
  simp only [Bool.and_eq_true, decide_eq_true_eq, beq_iff_eq, List.all_eq_true] at *
  refine ⟨by simp; omega, ?_, fun x hx => ?_⟩
  · unfold Sp.trim Lib.trimS
    rw [trimR_append _ _ nb tb, List.append_assoc, trimL_append _ _ na ta]
  · rcases List.mem_append.1 hx with hx | hx
    · rcases List.mem_append.1 hx with hx | hx
      · exact ha.2.2 x hx
      · simp only [List.mem_cons, List.not_mem_nil, or_false] at hx
        rcases hx with rfl | rfl
        · exact valC_sep.1
        · exact valC_sep.2
    · exact hb.2.2 x hx
theorem join_data (v acc : ByteArray) : ((v ++ H.sepB) ++ acc).data.toList = v.data.toList ++ [44, 32] ++ acc.data.toList := by
  rw [ByteArray.data_append, ByteArray.data_append]; simp [H.sepB]
theorem who_val : ∀ (g : List ByteArray) (acc : ByteArray), (∀ v ∈ g, Sp.valB v.data.toList = true) → Sp.valB acc.data.toList = true → acc.data.toList ≠ [] → Sp.valB (g.foldl H.whoStep acc).data.toList = true ∧ (g.foldl H.whoStep acc).data.toList ≠ []
  | [], acc, _, h, hn => ⟨h, hn⟩
  | v :: g, acc, hv, h, hn => by
    rw [List.foldl_cons]
    refine who_val g _ (fun x hx => hv x (List.mem_cons_of_mem _ hx)) ?_ ?_
    all_goals
      unfold H.whoStep
      split
      · rename_i c
        simp only [Bool.and_eq_true, Bool.not_eq_true', decide_eq_true_eq] at c
        rw [join_data]
        have hvn : v.data.toList ≠ [] := by
          have := c.1
          rw [toList_data] at this
          intro e
          rw [e] at this
          exact absurd this (by decide)
        first
        | (refine val_join (hv v List.mem_cons_self) h hvn hn ?_; have := c.2; rw [sep_size] at this; rw [size_data, size_data]; exact this)
        | simp [hvn]
      · first | exact h | exact hn
theorem text_val (n : Nat) (h : n ≤ 255) : Sp.valB (cB ++ H.text10 (n : Int)).data.toList = true ∧ (cB ++ H.text10 (n : Int)).data.toList ≠ [] ∧ (cB ++ H.text10 (n : Int)).size ≤ 4 := by
  have a : ((List.range 256).all fun n => Sp.valB (99 :: Lib.decDigits n) && decide ((Lib.decDigits n).length ≤ 3)) = true := by kernel_rfl
  have := List.all_eq_true.1 a n (List.mem_range.2 (by omega))
  simp only [Bool.and_eq_true, decide_eq_true_eq] at this
  have e : (cB ++ H.text10 (n : Int)).data.toList = 99 :: Lib.decDigits n := by
    unfold H.text10
    rw [if_pos (by omega), Lib.itoa_nonneg, ByteArray.data_append]
    simp [cB]
  refine ⟨by rw [e]; exact this.1, by rw [e]; simp, ?_⟩
  rw [← size_data, e]
  simp
  omega
def goodF (x : S28) : Prop := Sp.nameB x.f0.data.toList = true ∧ Sp.valB x.f1.data.toList = true
theorem made_goodF {fs : List S28} (h : MFs fs) : ∀ x ∈ fs, goodF x := fun x hx => ⟨(names_good _ (h x hx).1).1, (vals_good _ (h x hx).2).1⟩
theorem strip_mem {fs : List S28} {x : S28} (h : x ∈ stripS fs) : x ∈ fs := (List.mem_filter.1 (List.mem_filter.1 h).1).1
theorem fields_good {B : Nat} {F : List S28} (hf : ∀ x ∈ F, goodF x) (hB : B ≤ 4000) (hl : F.length ≤ 20) (hs : ∀ x ∈ F, x.f0.size ≤ B ∧ x.f1.size ≤ B) (k : Nat) (hk : 20000 ≤ k) : lockageref06_fields.f k F = some true := by
  rw [Rfields_ev B (by omega) F (by omega) hs k (by omega), decide_eq_true hl]
  have : F.any badF = false := by
    rw [List.any_eq_false]
    intro x hx
    have := hf x hx
    unfold badF
    rw [this.1, this.2]
    decide
  rw [this]
  rfl
theorem meths_ref2 : ∀ m ∈ mMeths, m.size ≤ 100 ∧ Sp.nameB m.data.toList = true := by
  have h : (mMeths.all fun m => decide (m.size ≤ 100) && Sp.nameB m.data.toList) = true := by kernel_rfl
  intro m hm; have := List.all_eq_true.1 h m hm; simpa using this
theorem targs_ref2 : ∀ m ∈ mTargs, m.size ≤ 100 ∧ targetS m.data.toList = true := by
  have h : (mTargs.all fun m => decide (m.size ≤ 100) && targetS m.data.toList) = true := by kernel_rfl
  intro m hm; have := List.all_eq_true.1 h m hm; simpa using this
theorem reas_ref2 : ∀ m ∈ mReas, m.size ≤ 100 ∧ reasonS m.data.toList = true := by
  have h : (mReas.all fun m => decide (m.size ≤ 100) && reasonS m.data.toList) = true := by kernel_rfl
  intro m hm; have := List.all_eq_true.1 h m hm; simpa using this
theorem stats_in2 : ∀ st ∈ mStats, 100 ≤ st ∧ st ≤ 599 := by decide
/-- What Made gives, in one. -/
def IsMade (a : Bool) (m t : ByteArray) (st : Int) (s : ByteArray) (mi : Int) (fs : List S28) : Prop :=
  (if a = true then m = ⟨#[]⟩ ∧ t = ⟨#[]⟩ ∧ st ∈ mStats ∧ s ∈ mReas else m ∈ mMeths ∧ t ∈ mTargs ∧ st = 0 ∧ s = ⟨#[]⟩) ∧ (mi = 0 ∨ mi = 1) ∧ fs.length ≤ 6 ∧ MFs fs
theorem Made_is (l : List Int) (hl : l.length ≤ 281474976710656) (hw : ∀ x ∈ l, (Lit.int .u8 x).wf = true) (b : Bool) :
    ∃ m t st s mi fs, (∀ k, 20 ≤ k → lockagelaw06_Made.f k l b = some (m, t, st, s, mi, fs)) ∧ IsMade b m t st s mi fs := by
  cases b with
  | false =>
    obtain ⟨m, t, mi, fs, h, h4, h5, h1, h2, h3⟩ := Made_false l hl hw
    exact ⟨m, t, 0, ⟨#[]⟩, mi, fs, h, ⟨by rw [if_neg (by decide)]; exact ⟨h4, h5, rfl, rfl⟩, h1, h2, h3⟩⟩
  | true =>
    obtain ⟨st, s, mi, fs, h, h4, h5, h1, h2, h3⟩ := Made_true l hl hw
    exact ⟨⟨#[]⟩, ⟨#[]⟩, st, s, mi, fs, h, ⟨by rw [if_pos rfl]; exact ⟨rfl, rfl, h4, h5⟩, h1, h2, h3⟩⟩
/-! ### the loops -/
def dropL (b : Bool) (hops : List ByteArray) : List ByteArray := if b = true then hops ++ [clL] else hops ++ [clL] ++ [xffL]
/-- What is shown of the fields that are sent on: S, and one more. -/
structure SentF (b : Bool) (fs S : List S28) (la : S28) : Prop where
  s : fs.filter (keeps (dropL b (hopsL fs))) = S
  g : ∀ x ∈ S ++ [la], goodF x
  z : ∀ x ∈ S ++ [la], x.f0.size ≤ 4000 ∧ x.f1.size ≤ 4000
  h : ∀ x ∈ S, keeps (hopsL fs) x = true
theorem SentF.gone {b : Bool} {fs S : List S28} {la : S28} (h : SentF b fs S la) : ∀ x ∈ hopsL fs, Sp.lower la.f0.data.toList = x.data.toList ∨ getS (S ++ [la]) x = [] := by
  intro x hx
  by_cases c : Sp.lower la.f0.data.toList = x.data.toList
  · exact .inl c
  · refine .inr ?_
    unfold getS
    rw [List.map_eq_nil_iff, List.filter_eq_nil_iff]
    intro y hy
    rcases List.mem_append.1 hy with hy | hy
    · have h1 := h.h y hy
      unfold keeps at h1
      rw [Bool.not_eq_true', List.any_eq_false] at h1
      have h2 := h1 x hx
      unfold H.sameName at h2
      intro e
      apply h2
      rw [beq_iff_eq] at e ⊢
      exact e.symm
    · rw [List.mem_singleton.1 hy, hops_low x hx, beq_iff_eq]
      exact c
theorem cl_low : Sp.lower clL.data.toList = Sp.lower clB.data.toList := by decide +kernel
theorem strip_keeps {fs : List S28} {x : S28} (h : x ∈ stripS fs) : keeps (hopsL fs) x = true := (List.mem_filter.1 (List.mem_filter.1 h).1).2
theorem xff_good : Sp.nameB xffB.data.toList = true ∧ Sp.nameB viaB.data.toList = true := by decide +kernel
theorem via_good (mi : Int) (h : mi = 0 ∨ mi = 1) : Sp.valB (viaV mi).data.toList = true ∧ (viaV mi).size ≤ 100 := by
  have a : ((List.range 2).all fun n => Sp.valB ([49, 46] ++ Lib.decDigits n ++ [32, 108, 111, 99, 107, 97, 103, 101]) && decide ((Lib.decDigits n).length ≤ 3)) = true := by kernel_rfl
  obtain ⟨n, rfl, hn⟩ : ∃ n : Nat, mi = n ∧ n < 2 := by rcases h with rfl | rfl; exact ⟨0, rfl, by omega⟩; exact ⟨1, rfl, by omega⟩
  have := List.all_eq_true.1 a n (List.mem_range.2 hn)
  simp only [Bool.and_eq_true, decide_eq_true_eq] at this
  have e : (viaV (n : Int)).data.toList = [49, 46] ++ Lib.decDigits n ++ [32, 108, 111, 99, 107, 97, 103, 101] := by
    unfold viaV H.text10
    rw [if_pos (by omega), Lib.itoa_nonneg, ByteArray.data_append, ByteArray.data_append]
    simp
  refine ⟨by rw [e]; exact this.1, ?_⟩
  rw [← size_data, e]
  simp
  omega
theorem who_good {fs : List S28} (h : MFs fs) (n : Nat) (hn : n ≤ 255) : Sp.valB (H.whoAll (getS (stripS fs) xffB) (cB ++ H.text10 (n : Int))).data.toList = true := by
  obtain ⟨h1, h2, _⟩ := text_val n hn
  unfold H.whoAll
  refine (who_val _ _ (fun v hv => ?_) h1 h2).1
  rw [List.mem_reverse] at hv
  obtain ⟨x, hx, rfl⟩ := getS_mem hv
  exact (made_goodF h x (strip_mem hx)).2
theorem sent_req {m t : ByteArray} {st : Int} {s : ByteArray} {mi : Int} {fs : List S28} (hm : IsMade false m t st s mi fs) (n : Nat) (hn : n ≤ 255) :
    SentF false fs ((stripS fs).filter (keeps [xffB])) ⟨xffB, H.whoAll (getS (stripS fs) xffB) (cB ++ H.text10 (n : Int))⟩ := by
  have hf := hm.2.2.2
  have hfit := made_fit hm.2.2.1 hf
  have hw := who_good hf n hn
  refine ⟨?_, fun x hx => ?_, fun x hx => ?_, fun x hx => strip_keeps (List.mem_filter.1 hx).1⟩
  · unfold dropL
    rw [if_neg (by decide), filter_app, filter_app, filter_low cl_low, filter_low xff_low]
    rfl
  · rcases List.mem_append.1 hx with hx | hx
    · exact made_goodF hf x (strip_mem (List.mem_filter.1 hx).1)
    · rw [List.mem_singleton.1 hx]; exact ⟨xff_good.1, hw⟩
  · rcases List.mem_append.1 hx with hx | hx
    · have := hfit.x x (strip_mem (List.mem_filter.1 hx).1); omega
    · rw [List.mem_singleton.1 hx]
      refine ⟨by show xffB.size ≤ 4000; decide, ?_⟩
      have := Sp.val_length hw
      rw [size_data] at this
      show (H.whoAll _ _).size ≤ 4000
      omega
theorem sent_ans {m t : ByteArray} {st : Int} {s : ByteArray} {mi : Int} {fs : List S28} (hm : IsMade true m t st s mi fs) : SentF true fs (stripS fs) ⟨viaB, viaV mi⟩ := by
  have hf := hm.2.2.2
  have hfit := made_fit hm.2.2.1 hf
  have hv := via_good mi hm.2.1
  refine ⟨?_, fun x hx => ?_, fun x hx => ?_, fun x hx => strip_keeps hx⟩
  · unfold dropL
    rw [if_pos rfl, filter_app, filter_low cl_low]
    rfl
  · rcases List.mem_append.1 hx with hx | hx
    · exact made_goodF hf x (strip_mem hx)
    · rw [List.mem_singleton.1 hx]; exact ⟨xff_good.2, hv.1⟩
  · rcases List.mem_append.1 hx with hx | hx
    · have := hfit.x x (strip_mem hx); omega
    · rw [List.mem_singleton.1 hx]
      exact ⟨by show viaB.size ≤ 4000; decide, by have := hv.2; show (viaV mi).size ≤ 4000; omega⟩
theorem I64_mi {mi : Int} (h : mi = 0 ∨ mi = 1) : I64 mi := by rcases h with rfl | rfl <;> exact ⟨by omega, by omega⟩
end Go.Proofs.YthmpfncidpjnjaaDoor.P
namespace Go.Proofs.YthmpfncidpjnjaaDoor.P
open Go.RowKit Go.Proofs.YthmpfncidpjnjaaDoorW.PrintWords Go.Proofs.YthmpfncidpjnjaaDoorW.PrintLast Go.Proofs.YthmpfncidpjnjaaDoorW.PrintMore
theorem vals_13 : ∀ m ∈ mVals, m.size ≤ 13 := by
  have h : (mVals.all fun m => decide (m.size ≤ 13)) = true := by kernel_rfl
  intro m hm; have := List.all_eq_true.1 h m hm; simpa using this
theorem who_size : ∀ (g : List ByteArray) (acc : ByteArray), (∀ v ∈ g, v.size ≤ 13) → (g.foldl H.whoStep acc).size ≤ acc.size + 15 * g.length
  | [], acc, _ => by simp
  | v :: g, acc, h => by
    have h1 := h v List.mem_cons_self
    have h2 := who_size g (H.whoStep acc v) (fun x hx => h x (List.mem_cons_of_mem _ hx))
    have h3 : (H.whoStep acc v).size ≤ acc.size + 15 := by
      unfold H.whoStep
      split
      · rw [sep_size]; omega
      · omega
    rw [List.foldl_cons, List.length_cons]
    omega
def sS (fs : List S28) : List S28 := (stripS fs).filter (keeps [xffB])
theorem sS_keeps {fs : List S28} {x : S28} (h : x ∈ sS fs) : keeps hop8 x = true ∧ keeps [clB] x = true ∧ keeps [xffB] x = true ∧ x ∈ fs := by
  have h1 := List.mem_filter.1 h
  have h2 := strip_keeps h1.1
  unfold hopsL at h2
  rw [keeps_app, Bool.and_eq_true] at h2
  exact ⟨h2.1, (List.mem_filter.1 h1.1).2, h1.2, strip_mem h1.1⟩
theorem last_keeps (v : ByteArray) : keeps hop8 ⟨xffB, v⟩ = true ∧ keeps [clB] ⟨xffB, v⟩ = true ∧ keeps [xffB] ⟨xffB, v⟩ = false := by
  have h : (!(hop8.any (H.sameName xffB)) && !([clB].any (H.sameName xffB)) && ([xffB].any (H.sameName xffB))) = true := by kernel_rfl
  simp only [Bool.and_eq_true] at h
  refine ⟨h.1.1, h.1.2, ?_⟩
  show (!([xffB].any (H.sameName xffB))) = false
  rw [h.2]
  rfl
theorem not_same {a : ByteArray} {x : S28} (h : keeps [a] x = true) : ¬ (Sp.lower x.f0.data.toList == Sp.lower a.data.toList) = true := by
  unfold keeps H.sameName at h
  intro e
  rw [beq_iff_eq] at e
  simp [e] at h
theorem getS_none {a : ByteArray} {S : List S28} (h : ∀ x ∈ S, keeps [a] x = true) : getS S a = [] := by
  unfold getS
  rw [List.map_eq_nil_iff, List.filter_eq_nil_iff]
  exact fun x hx => not_same (h x hx)
theorem getS_app (S T : List S28) (a : ByteArray) : getS (S ++ T) a = getS S a ++ getS T a := by unfold getS; rw [List.filter_append, List.map_append]
theorem getS_one (v : ByteArray) : getS [⟨xffB, v⟩] xffB = [v] := by
  unfold getS
  rw [List.filter_cons, if_pos (by simp)]
  rfl
theorem keeps_sub {a b : List ByteArray} (h : ∀ x ∈ b, x ∈ a) {x : S28} (hx : keeps a x = true) : keeps b x = true := by
  unfold keeps at *
  rw [Bool.not_eq_true', List.any_eq_false] at *
  exact fun n hn => hx n (h n hn)
theorem con_low : Sp.lower conL.data.toList = Sp.lower conB.data.toList := by decide +kernel
theorem sent_con (fs : List S28) (v : ByteArray) : getS (sS fs ++ [⟨xffB, v⟩]) conB = [] := by
  rw [← getS_low _ con_low]
  refine getS_none fun x hx => ?_
  have hc : ∀ y ∈ [conL], y ∈ hop8 := fun y hy => by rw [List.mem_singleton.1 hy]; unfold hop8 conL; simp
  rcases List.mem_append.1 hx with hx | hx
  · exact keeps_sub hc (sS_keeps hx).1
  · rw [List.mem_singleton.1 hx]
    exact keeps_sub hc (last_keeps v).1
theorem sent_hops (fs : List S28) (v : ByteArray) : hopsL (sS fs ++ [⟨xffB, v⟩]) = hop8 := by
  unfold hopsL
  rw [sent_con]
  rfl
theorem sent_strip (fs : List S28) (v : ByteArray) : stripS (sS fs ++ [⟨xffB, v⟩]) = sS fs ++ [⟨xffB, v⟩] := by
  unfold stripS
  rw [sent_hops]
  have h1 : (sS fs ++ [(⟨xffB, v⟩ : S28)]).filter (keeps hop8) = sS fs ++ [(⟨xffB, v⟩ : S28)] := List.filter_eq_self.2 fun x hx => by
    rcases List.mem_append.1 hx with hx | hx
    · exact (sS_keeps hx).1
    · rw [List.mem_singleton.1 hx]; exact (last_keeps v).1
  rw [h1]
  exact List.filter_eq_self.2 fun x hx => by
    rcases List.mem_append.1 hx with hx | hx
    · exact (sS_keeps hx).2.1
    · rw [List.mem_singleton.1 hx]; exact (last_keeps v).2.1
theorem sent_drop (fs : List S28) (v : ByteArray) : (sS fs ++ [(⟨xffB, v⟩ : S28)]).filter (keeps [xffB]) = sS fs := by
  rw [List.filter_append]
  have h1 : (sS fs).filter (keeps [xffB]) = sS fs := List.filter_eq_self.2 fun x hx => (sS_keeps hx).2.2.1
  rw [h1, List.filter_cons, if_neg (by rw [(last_keeps v).2.2]; decide)]
  simp
theorem sent_get (fs : List S28) (v : ByteArray) : getS (sS fs ++ [⟨xffB, v⟩]) xffB = [v] := by
  rw [getS_app, getS_none (fun x hx => (sS_keeps hx).2.2.1), getS_one]
  rfl
theorem ForwardTwice_ok (l : List Int) (y0 : l.length * 1 ≤ 140737488351232) (hw : ∀ x ∈ l, (Lit.int .u8 x).wf = true) (a1 : Int) (w1 : (Lit.int .u8 a1).wf = true) (a2 : Int) (w2 : (Lit.int .u8 a2).wf = true) : ∃ k, lockagelaw15_ForwardTwice.f k l a1 a2 = some true := by
  have hl : l.length ≤ 281474976710656 := by omega
  have hc1 := bounds_u8 w1
  have hc2 := bounds_u8 w2
  obtain ⟨n, rfl⟩ := Int.eq_ofNat_of_zero_le hc1.1
  obtain ⟨b, rfl⟩ := Int.eq_ofNat_of_zero_le hc2.1
  obtain ⟨m, t, st, s, mi, fs, h1, h2⟩ := Made_is l hl hw false
  have hf := h2.2.2.2
  have hfit := made_fit h2.2.2.1 hf
  have hcn : I64 (n : Int) := I64_small hc1
  have hcb : I64 (b : Int) := I64_small hc2
  obtain ⟨v, hv⟩ : ∃ v, v = H.whoAll (getS (stripS fs) xffB) (cB ++ H.text10 (n : Int)) := ⟨_, rfl⟩
  obtain ⟨q, hq⟩ : ∃ q, q = cB ++ H.text10 (b : Int) := ⟨_, rfl⟩
  have hX : reqF fs n = sS fs ++ [⟨xffB, v⟩] := by unfold reqF sS; rw [hv]
  have hvn : v.data.toList ≠ [] := by
    obtain ⟨e1, e2, _⟩ := text_val n (by omega)
    rw [hv]
    unfold H.whoAll
    refine (who_val _ _ (fun y hy => ?_) e1 e2).2
    rw [List.mem_reverse] at hy
    obtain ⟨x, hx, rfl⟩ := getS_mem hy
    exact (made_goodF hf x (strip_mem hx)).2
  have hvs : v.size ≤ 94 := by
    obtain ⟨_, _, e3⟩ := text_val n (by omega)
    rw [hv]
    unfold H.whoAll
    refine Nat.le_trans (who_size _ _ (fun y hy => ?_)) ?_
    · rw [List.mem_reverse] at hy
      obtain ⟨x, hx, rfl⟩ := getS_mem hy
      exact vals_13 _ (hf x (strip_mem hx)).2
    · have e4 : (getS (stripS fs) xffB).length ≤ 6 := Nat.le_trans (getS_length _ _) (Nat.le_trans (List.length_filter_le _ _) (Nat.le_trans (List.length_filter_le _ _) h2.2.2.1))
      rw [List.length_reverse]
      omega
  have hqs : q.size ≤ 4 := by rw [hq]; exact (text_val b (by omega)).2.2
  have hSl : (sS fs).length ≤ 6 := Nat.le_trans (List.length_filter_le _ _) (Nat.le_trans (List.length_filter_le _ _) (Nat.le_trans (List.length_filter_le _ _) h2.2.2.1))
  have hFitX : ∀ u : ByteArray, u.size ≤ 400 → Fit 400 (sS fs ++ [⟨xffB, u⟩]) := fun u hu => ⟨by rw [List.length_append]; show _ + 1 ≤ 100; omega, fun x hx => by
    rcases List.mem_append.1 hx with hx | hx
    · exact hfit.x x (sS_keeps hx).2.2.2
    · rw [List.mem_singleton.1 hx]; exact ⟨by show xffB.size ≤ 400; decide, hu⟩, by omega⟩
  have hstep : H.whoAll [v] q = (v ++ H.sepB) ++ q := by
    show H.whoStep q v = _
    unfold H.whoStep
    rw [if_pos]
    simp only [Bool.and_eq_true, decide_eq_true_eq]
    refine ⟨?_, by rw [sep_size]; omega⟩
    rw [toList_data]
    cases e : v.data.toList with
    | nil => exact absurd e hvn
    | cons _ _ => rfl
  have hY : reqF (sS fs ++ [⟨xffB, v⟩]) b = sS fs ++ [⟨xffB, (v ++ H.sepB) ++ q⟩] := by
    unfold reqF
    rw [sent_strip, sent_drop, sent_get, ← hq, hstep]
  have hZ : reqF [] b = [⟨xffB, q⟩] := by rw [hq]; rfl
  have hz0 : Fit 400 ([] : List S28) := ⟨by simp, fun x hx => (by cases hx), by omega⟩
  have hfv := hFitX v (by omega)
  have hfw := hFitX ((v ++ H.sepB) ++ q) (by rw [sep_size]; omega)
  have hg : ∀ (u : ByteArray) (k : Nat), u.size ≤ 400 → 10000 ≤ k → lockageref05_Get.f k (sS fs ++ [⟨xffB, u⟩]) (⟨#[120, 45, 102, 111, 114, 119, 97, 114, 100, 101, 100, 45, 102, 111, 114]⟩ : ByteArray) = some [u] := fun u k hu hk => by
    have hfu := hFitX u hu
    have h := RefGet_ev 4000 (by decide) (sS fs ++ [⟨xffB, u⟩]) xffL (by have := hfu.n; omega) (by decide) (fun x hx => by have := (hfu.x x hx).1; omega) k (by have := hfu.n; omega)
    rw [getS_low _ xff_low, sent_get] at h
    exact h
  have hd : ∀ (u : ByteArray) (k : Nat), u.size ≤ 400 → 10000 ≤ k → lockageref05_Drop.f k (sS fs ++ [⟨xffB, u⟩]) [(⟨#[120, 45, 102, 111, 114, 119, 97, 114, 100, 101, 100, 45, 102, 111, 114]⟩ : ByteArray)] = some (sS fs) := fun u k hu hk => by
    have hfu := hFitX u hu
    have hp : (sS fs ++ [(⟨xffB, u⟩ : S28)]).length * (([xffL] : List ByteArray).length + 2) ≤ 100 * 3 := Nat.mul_le_mul hfu.n (by decide)
    have h := RefDrop_ev 4000 (by decide) (sS fs ++ [⟨xffB, u⟩]) [xffL] (by have := hfu.n; omega) (by decide) (fun x hx => by have := (hfu.x x hx).1; omega) (fun x hx => by rw [List.mem_singleton.1 hx]; decide) k (by omega)
    rw [filter_low xff_low, sent_drop] at h
    exact h
  refine ⟨1000001, ?_⟩
  unfold lockagelaw15_ForwardTwice.f
  rw [awake15 _ (by omega), Option.bind_some, if_pos rfl, h1 _ (by omega), Option.bind_some, wrap_u8 hc1, Request_ev hfit n hcn m t s _ st mi _ (by omega), Option.bind_some]
  dsimp only
  rw [hX, wrap_u8 hc2, Request_ev hfv b hcb m t s _ st 1 _ (by omega), Option.bind_some]
  dsimp only
  rw [hY, hg v _ (by omega) (by omega), Option.bind_some, hg _ _ (by rw [sep_size]; omega) (by omega), Option.bind_some, Request_ev hz0 b hcb _ _ _ _ 0 0 _ (by omega), Option.bind_some, hZ]
  dsimp only
  have hone : ∀ u : ByteArray, (([u] : List ByteArray).length : Int) = 1 := fun _ => rfl
  rw [if_pos (hone v), if_pos (hone _)]
  have hne : ((([⟨xffB, q⟩] : List S28).length : Int) != 1) = false := rfl
  rw [hne, lockagelaw15_ForwardTwice.j0, if_neg (by decide), Option.bind_some, if_pos rfl, if_pos (by rw [hone]; decide), if_pos (by rw [hone]; decide)]
  have r1 : rdOf ByteArray.empty [v] 0 = v := rfl
  have r2 : rdOf ByteArray.empty [(v ++ H.sepB) ++ q] 0 = (v ++ H.sepB) ++ q := rfl
  have r3 : rd_T28 [⟨xffB, q⟩] 0 = ⟨xffB, q⟩ := rfl
  rw [r1, r2, r3]
  have hs1 : (v ++ (⟨#[44, 32]⟩ : ByteArray)).size = v.size + 2 := by rw [ByteArray.size_append]; rfl
  rw [if_pos (by omega), if_pos (by show (0 : Int) < 1; decide), if_pos (by dsimp only; omega), if_pos (by rfl), hd v _ (by omega) (by omega), Option.bind_some, hd _ _ (by rw [sep_size]; omega) (by omega), Option.bind_some, Same_ev _ (by omega) _ (by omega), Option.bind_some, if_pos rfl, if_pos (by decide +kernel), if_pos rfl]
  simp
end Go.Proofs.YthmpfncidpjnjaaDoor.P
