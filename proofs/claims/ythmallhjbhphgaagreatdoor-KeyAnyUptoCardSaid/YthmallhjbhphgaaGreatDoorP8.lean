/- Several parts together: Plain facts about the plain functions of header fields: small letters, trimming, names, cutting; lists of bytes alone; What the printed functions of header fields come to: names, values, what a name has; plain Lean, no program; What the reference functions of header fields come to: small letters, what a name has; plain Lean, no program; What lockagelaw06.Made comes to: a right head of at most six fields, names and values from two lists; plain Lean, no program; What lockagelaw06.Made comes to where it makes an answer; plain Lean, no program; Staying open, in plain Lean: what frame.Stays comes to; What the reference functions of header fields come to, of any texts: names, blanks, trimming, values; plain Lean, no program; What the reference's Value comes to, of any text; plain Lean, no program; What the reference's Items come to, of any texts; plain Lean, no program; Numbers of sixteen digits: num.Parse and the reference's Parse come to the same, of any text; plain Lean, no program; What the reference's comparing and dropping come to; plain Lean, no program; A request by numbers: what lockagelaw16.Request comes to; plain Lean, no program; What the functions of package key come to: plain Lean, no program; The law KeyFits answers true; plain Lean, no program; The law KeySame answers true; plain Lean, no program. -/
import Derived.Test.YthmallhjbhphgaaGreatDoorHZA
import Derived.Test.YthmallhjbhphgaaGreatDoorHZB
import Derived.Test.YthmallhjbhphgaaGreatDoorPx1
import Derived.Lib.LazyBuf
import Derived.Test.YthmallhjbhphgaaGreatDoorPx5
import Derived.Test.YthmallhjbhphgaaGreatDoorHZC
import Derived.OpenShut
import Derived.Test.YthmallhjbhphgaaGreatDoorPx2
import Derived.Test.YthmallhjbhphgaaGreatDoorPx6
import Derived.Test.YthmallhjbhphgaaGreatDoorPx3
import Derived.Test.YthmallhjbhphgaaGreatDoorPx8
import Derived.Test.YthmallhjbhphgaaGreatDoorPx7
import Derived.Test.YthmallhjbhphgaaGreatDoorPx4
import Derived.Test.YthmallhjbhphgaaGreatDoorHZD
set_option linter.unusedVariables false
set_option linter.unusedSimpArgs false
namespace Go.Proofs.YthmallhjbhphgaaGreatDoor.Sp
theorem lowC_idem (c : UInt8) : lowC (lowC c) = lowC c := by
 unfold lowC
 by_cases h : 65 ≤ c ∧ c ≤ 90
 ·have h1 : (decide (65 ≤ c) && decide (c ≤ 90)) = true := by simp [h]
  have h2 : ¬ (65 ≤ c + 32 ∧ c + 32 ≤ 90) := by
   obtain ⟨a, b⟩ := h
   rw [UInt8.le_iff_toNat_le] at a b
   rw [UInt8.le_iff_toNat_le, UInt8.le_iff_toNat_le, UInt8.toNat_add]
   simp at a b ⊢
   omega
  simp only [h1, if_true]
  rw [if_neg (by simpa using h2)]
 ·have h1 : (decide (65 ≤ c) && decide (c ≤ 90)) = false := by simpa using h
  simp only [h1, Bool.false_eq_true, if_false]
theorem lower_idem (l : List UInt8) : lower (lower l) = lower l := by
 unfold lower
 rw [List.map_map]
 exact List.map_congr_left fun c _ => lowC_idem c
theorem lower_length (l : List UInt8) : (lower l).length = l.length := by unfold lower; rw [List.length_map]

theorem dropWhile_snoc {p : UInt8 → Bool} {c : UInt8} (hc : p c = true) : ∀ l : List UInt8, (l ++ [c]).dropWhile p = if (l.dropWhile p).isEmpty then [] else l.dropWhile p ++ [c]
 | [] => by simp [hc]
 | b :: l => by
  rw [List.cons_append, List.dropWhile_cons, List.dropWhile_cons]
  split
  ·exact dropWhile_snoc hc l
  ·simp
theorem trim_blank {c : UInt8} (hc : ([32, 9] : List UInt8).contains c = true) (l : List UInt8) : trim (c :: l) = trim l := by
 unfold trim Lib.trimS
 have e : Lib.trimRightS (c :: l) [32, 9] = if (Lib.trimRightS l [32, 9]).isEmpty then [] else c :: Lib.trimRightS l [32, 9] := by
  unfold Lib.trimRightS
  rw [List.reverse_cons, dropWhile_snoc (p := (([32, 9] : List UInt8).contains ·)) hc, List.isEmpty_reverse]
  split
  ·rfl
  ·rw [List.reverse_append]
   rfl
 rw [e]
 split
 ·rename_i h
  rw [List.isEmpty_iff] at h
  rw [h]
 ·unfold Lib.trimLeftS
  rw [List.dropWhile_cons, if_pos hc]
theorem trim_length (l : List UInt8) : (trim l).length ≤ l.length := by
 unfold trim Lib.trimS Lib.trimLeftS Lib.trimRightS
 have h1 := (List.dropWhile_sublist (l := (l.reverse.dropWhile (([32, 9] : List UInt8).contains ·)).reverse) (([32, 9] : List UInt8).contains ·)).length_le
 have h2 := (List.dropWhile_sublist (l := l.reverse) (([32, 9] : List UInt8).contains ·)).length_le
 rw [List.length_reverse] at h1 h2
 exact Nat.le_trans h1 h2
theorem cutL_length (c : UInt8) (l : List UInt8) : (cutL c l).length ≤ l.length := by
 unfold cutL
 split
 ·exact (List.takeWhile_sublist _).length_le
 ·exact Nat.le_refl _
theorem cutR_length (c : UInt8) (l : List UInt8) : (cutR c l).length ≤ l.length := by
 unfold cutR
 split
 ·rw [List.length_drop]
  have := (List.dropWhile_sublist (l := l) (· != c)).length_le
  omega
 ·simp
theorem take_to {c : UInt8} : ∀ {l r : List UInt8}, c ∉ l → (l ++ c :: r).takeWhile (· != c) = l
 | [], r, _ => by simp
 | b :: l, r, h => by
  have hb : (b != c) = true := by
   simp only [List.mem_cons, not_or] at h
   simp only [bne_iff_ne]
   exact fun e => h.1 e.symm
  rw [List.cons_append, List.takeWhile_cons, if_pos hb, take_to fun e => h (List.mem_cons_of_mem _ e)]
theorem drop_to {c : UInt8} : ∀ {l r : List UInt8}, c ∉ l → (l ++ c :: r).dropWhile (· != c) = c :: r
 | [], r, _ => by simp
 | b :: l, r, h => by
  have hb : (b != c) = true := by
   simp only [List.mem_cons, not_or] at h
   simp only [bne_iff_ne]
   exact fun e => h.1 e.symm
  rw [List.cons_append, List.dropWhile_cons, if_pos hb, drop_to fun e => h (List.mem_cons_of_mem _ e)]
theorem cutL_at {c : UInt8} {l r : List UInt8} (h : c ∉ l) : cutL c (l ++ c :: r) = l := by
 unfold cutL
 rw [if_pos (by simp), take_to h]
theorem cutR_at {c : UInt8} {l r : List UInt8} (h : c ∉ l) : cutR c (l ++ c :: r) = r := by
 unfold cutR
 rw [if_pos (by simp), drop_to h]
 rfl
theorem cutIs_at {c : UInt8} {l r : List UInt8} : cutIs c (l ++ c :: r) = true := by
 unfold cutIs
 simp
end Go.Proofs.YthmallhjbhphgaaGreatDoor.Sp
namespace Go.Proofs.YthmallhjbhphgaaGreatDoor.P
open Go.RowKit Go.Proofs.YthmallhjbhphgaaGreatDoorW.PrintWords Go.Proofs.YthmallhjbhphgaaGreatDoorW.PrintLast Go.Proofs.YthmallhjbhphgaaGreatDoorW.PrintMore

theorem size_data (s : ByteArray) : s.data.toList.length = s.size := by rw [Array.length_toList]; rfl
theorem lower_f {a : ByteArray} (h : a.size ≤ 9223372036854775806) : field_Lower.f a = some ⟨(Sp.lower a.data.toList).toArray⟩ := by unfold field_Lower.f; rw [if_pos h]
theorem mk_size (l : List UInt8) : (⟨l.toArray⟩ : ByteArray).size = l.length := by show l.toArray.size = _; rw [List.size_toArray]
theorem toList_data (a : ByteArray) : a.toList = a.data.toList := ByteArray.toList_eq a
def getS (l : List S37) (a : ByteArray) : List ByteArray := (l.filter fun x => Sp.lower x.f0.data.toList == Sp.lower a.data.toList).map (·.f1)
theorem getS_length (l : List S37) (a : ByteArray) : (getS l a).length ≤ l.length := by
 unfold getS
 rw [List.length_map]
 exact List.length_filter_le _ _
theorem field_Get_at (l : List S37) (a : ByteArray) (hl : l.length < 4398046511104) (ha : a.size ≤ 9223372036854775806) (hn : ∀ x ∈ l, x.f0.size ≤ 9223372036854775806) :
  ∀ (d i k : Nat) (acc : List ByteArray), l.length - i = d → i ≤ l.length → acc.length ≤ i → d + 1 ≤ k → field_Get.l0 k a acc l (l.length : Int) i = some (acc ++ getS (l.drop i) a)
 | d, i, 0, acc, hd, hi, hacc, hk => by omega
 | d, i, k + 1, acc, hd, hi, hacc, hk => by
  unfold field_Get.l0
  by_cases hlt : i < l.length
  ·rw [if_pos (by omega), if_pos (by omega), if_pos (by omega)]
   have hx : rd_T37 l (i : Int) = l[i] := by simp [rd_T37, hlt]
   have hs := hn l[i] (List.getElem_mem hlt)
   have ew : wrap64 ((i : Int) + 1) = ((i + 1 : Nat) : Int) := by unfold wrap64; omega
   rw [hx, lower_f hs, lower_f ha, ew]
   simp only [Option.bind_some]
   have ed : l.drop i = l[i] :: l.drop (i + 1) := List.drop_eq_getElem_cons hlt
   have eg : getS (l.drop i) a = (if (Sp.lower l[i].f0.data.toList == Sp.lower a.data.toList) = true then [l[i].f1] else []) ++ getS (l.drop (i + 1)) a := by
    rw [ed]
    unfold getS
    rw [List.filter_cons]
    split <;> simp
   rw [eg]
   by_cases c : Sp.lower l[i].f0.data.toList = Sp.lower a.data.toList
   ·rw [if_pos (by rw [toList_data, toList_data]; simpa using c), if_pos (by omega), if_pos (by simpa using c)]
    rw [field_Get_at l a hl ha hn (d - 1) (i + 1) k _ (by omega) (by omega) (by simp; omega) (by omega), List.append_assoc]
   ·rw [if_neg (by rw [toList_data, toList_data]; simpa using c), if_neg (by simpa using c)]
    rw [field_Get_at l a hl ha hn (d - 1) (i + 1) k _ (by omega) (by omega) (by omega) (by omega), List.nil_append]
  ·rw [if_neg (by omega), List.drop_of_length_le (by omega)]
   simp [getS]
theorem field_Get_ev (l : List S37) (a : ByteArray) (hl : l.length < 4398046511104) (ha : a.size ≤ 9223372036854775806) (hn : ∀ x ∈ l, x.f0.size ≤ 9223372036854775806) (k : Nat) (hk : l.length + 1 ≤ k) :
  field_Get.f k l a = some (getS l a) := by
 unfold field_Get.f
 have := field_Get_at l a hl ha hn l.length 0 k [] (by omega) (by omega) (by simp) hk
 simpa using this
end Go.Proofs.YthmallhjbhphgaaGreatDoor.P
namespace Go.Proofs.YthmallhjbhphgaaGreatDoor.P
open Go.RowKit Go.Proofs.YthmallhjbhphgaaGreatDoorW.PrintWords Go.Proofs.YthmallhjbhphgaaGreatDoorW.PrintLast Go.Proofs.YthmallhjbhphgaaGreatDoorW.PrintMore

theorem bt_low {x : ByteArray} {i : Nat} (h : i < x.size) : bt x (i : Int) = ((x.data.toList[i]'(by rw [size_data]; exact h)).toNat : Int) := by
 unfold bt
 rw [dif_pos (by simpa using h)]
 rfl
theorem one_byte (c : UInt8) : (strOfNums [(c.toNat : Int)]) = ⟨#[c]⟩ := by
 have := Lib.Lz.strOfNums_map [c]
 simpa using this
theorem low_num (c : UInt8) (h : 65 ≤ (c.toNat : Int)) (h' : (c.toNat : Int) ≤ 90) : ((c.toNat : Int) + 32) % 256 = ((Sp.lowC c).toNat : Int) := by
 unfold Sp.lowC
 have h1 : (65 : UInt8) ≤ c := by rw [UInt8.le_iff_toNat_le]; simp; omega
 have h2 : c ≤ (90 : UInt8) := by rw [UInt8.le_iff_toNat_le]; simp; omega
 rw [if_pos (by simp [h1, h2]), UInt8.toNat_add]
 simp
theorem low_same (c : UInt8) (h : ¬ (65 ≤ (c.toNat : Int) ∧ (c.toNat : Int) ≤ 90)) : Sp.lowC c = c := by
 unfold Sp.lowC
 rw [if_neg]
 intro e
 simp only [Bool.and_eq_true, decide_eq_true_eq] at e
 obtain ⟨h1, h2⟩ := e
 rw [UInt8.le_iff_toNat_le] at h1 h2
 simp at h1 h2
 omega
theorem Low_at (x : ByteArray) (hx : x.size ≤ 9223372036854775806) :
  ∀ (d i k : Nat) (acc : ByteArray), x.size - i = d → i ≤ x.size → acc.size ≤ i → d + 1 ≤ k → lockageref05_Lower.l0 k x acc i = some ⟨(acc.data.toList ++ Sp.lower (x.data.toList.drop i)).toArray⟩
 | d, i, 0, acc, hd, hi, hacc, hk => by omega
 | d, i, k + 1, acc, hd, hi, hacc, hk => by
  unfold lockageref05_Lower.l0
  by_cases hlt : i < x.size
  ·rw [if_pos (by omega), if_pos (by omega)]
   have hl : i < x.data.toList.length := by rw [size_data]; exact hlt
   have ew : wrap64 ((i : Int) + 1) = ((i + 1 : Nat) : Int) := by unfold wrap64; omega
   have ed : x.data.toList.drop i = x.data.toList[i] :: x.data.toList.drop (i + 1) := List.drop_eq_getElem_cons hl
   have go : ∀ c : UInt8, Sp.lowC (x.data.toList[i]) = c → (if acc.size + (strOfNums [(c.toNat : Int)]).size ≤ 9223372036854775807 then lockageref05_Lower.l0 k x (acc ++ strOfNums [(c.toNat : Int)]) (wrap64 ((i : Int) + 1)) else none) = some ⟨(acc.data.toList ++ Sp.lower (x.data.toList.drop i)).toArray⟩ := by
    intro c hc
    have s1 : (⟨#[c]⟩ : ByteArray).size = 1 := rfl
    rw [one_byte, if_pos (by omega), ew, Low_at x hx (d - 1) (i + 1) k _ (by omega) (by omega) (by rw [ByteArray.size_append]; omega) (by omega), ed]
    have e1 : Sp.lower (x.data.toList[i] :: x.data.toList.drop (i + 1)) = c :: Sp.lower (x.data.toList.drop (i + 1)) := by rw [← hc]; rfl
    have e2 : (acc ++ (⟨#[c]⟩ : ByteArray)).data.toList = acc.data.toList ++ [c] := by rw [ByteArray.data_append]; simp
    rw [e1, e2, List.append_assoc]
    rfl
   rw [bt_low hlt]
   simp only [Option.bind_some]
   by_cases h1 : (x.data.toList[i].toNat : Int) ≥ 65
   ·rw [if_pos h1]
    by_cases h2 : (x.data.toList[i].toNat : Int) ≤ 90
    ·rw [if_pos h2, low_num _ h1 h2]
     exact go _ rfl
    ·rw [if_neg h2]
     exact go _ (low_same _ (by omega))
   ·rw [if_neg h1]
    exact go _ (low_same _ (by omega))
  ·rw [if_neg (by omega), List.drop_of_length_le (by rw [size_data]; omega)]
   have : (⟨(acc.data.toList ++ Sp.lower []).toArray⟩ : ByteArray) = acc := H.ba_ext (by simp [Sp.lower])
   rw [this]
theorem Low_ev (x : ByteArray) (hx : x.size ≤ 9223372036854775806) (k : Nat) (hk : x.size + 1 ≤ k) : lockageref05_Lower.f k x = some ⟨(Sp.lower x.data.toList).toArray⟩ := by
 unfold lockageref05_Lower.f
 have := Low_at x hx x.size 0 k ⟨#[]⟩ (by omega) (by omega) (by decide) (by omega)
 simpa using this
theorem RefGet_at (B : Nat) (hB : B ≤ 9223372036854775806) (l : List S37) (a : ByteArray) (hl : l.length < 4398046511104) (ha : a.size ≤ B) (hn : ∀ x ∈ l, x.f0.size ≤ B) :
  ∀ (d i k : Nat) (acc : List ByteArray), l.length - i = d → i ≤ l.length → acc.length ≤ i → d + B + 2 ≤ k → lockageref05_Get.l0 k l a acc i = some (acc ++ getS (l.drop i) a)
 | d, i, 0, acc, hd, hi, hacc, hk => by omega
 | d, i, k + 1, acc, hd, hi, hacc, hk => by
  unfold lockageref05_Get.l0
  by_cases hlt : i < l.length
  ·rw [if_pos (by omega), if_pos (by omega)]
   have hx : rd_T37 l (i : Int) = l[i] := by simp [rd_T37, hlt]
   have hs := hn l[i] (List.getElem_mem hlt)
   have ew : wrap64 ((i : Int) + 1) = ((i + 1 : Nat) : Int) := by unfold wrap64; omega
   rw [hx, Low_ev _ (by omega) k (by omega), Low_ev a (by omega) k (by omega), ew]
   simp only [Option.bind_some]
   have ed : l.drop i = l[i] :: l.drop (i + 1) := List.drop_eq_getElem_cons hlt
   have eg : getS (l.drop i) a = (if (Sp.lower l[i].f0.data.toList == Sp.lower a.data.toList) = true then [l[i].f1] else []) ++ getS (l.drop (i + 1)) a := by
    rw [ed]
    unfold getS
    rw [List.filter_cons]
    split <;> simp
   rw [eg]
   by_cases c : Sp.lower l[i].f0.data.toList = Sp.lower a.data.toList
   ·rw [if_pos (by rw [toList_data, toList_data]; simpa using c), if_pos (by omega), if_pos (by simpa using c)]
    rw [RefGet_at B hB l a hl ha hn (d - 1) (i + 1) k _ (by omega) (by omega) (by simp; omega) (by omega), List.append_assoc]
   ·rw [if_neg (by rw [toList_data, toList_data]; simpa using c), if_neg (by simpa using c)]
    rw [RefGet_at B hB l a hl ha hn (d - 1) (i + 1) k _ (by omega) (by omega) (by omega) (by omega), List.nil_append]
  ·rw [if_neg (by omega), List.drop_of_length_le (by omega)]
   simp [getS]
theorem RefGet_ev (B : Nat) (hB : B ≤ 9223372036854775806) (l : List S37) (a : ByteArray) (hl : l.length < 4398046511104) (ha : a.size ≤ B) (hn : ∀ x ∈ l, x.f0.size ≤ B) (k : Nat) (hk : l.length + B + 2 ≤ k) :
  lockageref05_Get.f k l a = some (getS l a) := by
 unfold lockageref05_Get.f
 have := RefGet_at B hB l a hl ha hn l.length 0 k [] (by omega) (by omega) (by simp) hk
 simpa using this
end Go.Proofs.YthmallhjbhphgaaGreatDoor.P
namespace Go.Proofs.YthmallhjbhphgaaGreatDoor.P
open Go.RowKit Go.Proofs.YthmallhjbhphgaaGreatDoorW.PrintWords Go.Proofs.YthmallhjbhphgaaGreatDoorW.PrintLast Go.Proofs.YthmallhjbhphgaaGreatDoorW.PrintMore
end Go.Proofs.YthmallhjbhphgaaGreatDoor.P
namespace Go.Proofs.YthmallhjbhphgaaGreatDoor.P
open Go.RowKit Go.Proofs.YthmallhjbhphgaaGreatDoorW.PrintWords Go.Proofs.YthmallhjbhphgaaGreatDoorW.PrintLast Go.Proofs.YthmallhjbhphgaaGreatDoorW.PrintMore
end Go.Proofs.YthmallhjbhphgaaGreatDoor.P
namespace Go.Proofs.YthmallhjbhphgaaGreatDoor.P
open Go.RowKit Go.Proofs.YthmallhjbhphgaaGreatDoorW.PrintWords Go.Proofs.YthmallhjbhphgaaGreatDoorW.PrintLast Go.Proofs.YthmallhjbhphgaaGreatDoorW.PrintMore
def hasT (l : List ByteArray) (c : List UInt8) : Bool := l.any fun x => c == x.toList
theorem hasT_drop (l : List ByteArray) (c : List UInt8) (j : Nat) (h : j < l.length) : hasT (l.drop j) c = (c == l[j].toList || hasT (l.drop (j + 1)) c) := by
 unfold hasT
 rw [List.drop_eq_getElem_cons h, List.any_cons]
theorem hasT_append (a b : List ByteArray) (c : List UInt8) : hasT (a ++ b) c = (hasT a c || hasT b c) := by unfold hasT; rw [List.any_append]
theorem rdOf_at {l : List ByteArray} {j : Nat} (h : j < l.length) : rdOf ByteArray.empty l (j : Int) = l[j] := by simp [rdOf, h]
theorem wrap_up (n : Nat) (h : n < 8796093022208) : wrap64 ((n : Int) + 1) = ((n + 1 : Nat) : Int) := by unfold wrap64; omega
theorem Index_at (l : List ByteArray) (a : ByteArray) (hl : l.length < 8796093022208) (d : Nat) :
  ∀ (i k : Nat), l.length - i = d → d + 1 ≤ k → ∃ r : Int, slices_Index_string_string.l0 k l a (l.length : Int) i = some r ∧ decide (r ≥ 0) = hasT (l.drop i) a.toList := by
 induction d with
 | zero =>
  intro i k hd hk
  obtain ⟨k, rfl⟩ : ∃ j, k = j + 1 := ⟨k - 1, by omega⟩
  unfold slices_Index_string_string.l0
  rw [if_neg (by omega), List.drop_of_length_le (by omega)]
  exact ⟨-1, rfl, rfl⟩
 | succ d ih =>
  intro i k hd hk
  obtain ⟨k, rfl⟩ : ∃ j, k = j + 1 := ⟨k - 1, by omega⟩
  have hi : i < l.length := by omega
  unfold slices_Index_string_string.l0
  rw [if_pos (by omega), if_pos (by omega), if_pos (by omega), rdOf_at hi, hasT_drop _ _ _ hi]
  by_cases c : a.toList = l[i].toList
  ·rw [if_pos c]
   refine ⟨_, rfl, ?_⟩
   rw [c]
   simp
  ·rw [if_neg c, wrap_up i (by omega)]
   obtain ⟨r, h1, h2⟩ := ih (i + 1) k (by omega) (by omega)
   refine ⟨r, h1, ?_⟩
   rw [h2]
   simp [c]
theorem Contains_ev (l : List ByteArray) (a : ByteArray) (hl : l.length < 8796093022208) (k : Nat) (hk : l.length + 1 ≤ k) : slices_Contains_string_string.f k l a = some (hasT l a.toList) := by
 obtain ⟨r, h1, h2⟩ := Index_at l a hl l.length 0 k (by omega) hk
 unfold slices_Contains_string_string.f slices_Index_string_string.f
 rw [show slices_Index_string_string.l0 k l a (l.length : Int) 0 = some r from h1]
 simp only [Option.bind_some]
 rw [h2]
 rfl
end Go.Proofs.YthmallhjbhphgaaGreatDoor.P
namespace Go.Proofs.YthmallhjbhphgaaGreatDoor.P
open Go.RowKit Go.Proofs.YthmallhjbhphgaaGreatDoorW.PrintWords Go.Proofs.YthmallhjbhphgaaGreatDoorW.PrintLast Go.Proofs.YthmallhjbhphgaaGreatDoorW.PrintMore
theorem byte_all {p : Nat → Bool} (h : ((List.range 256).all p) = true) (c : UInt8) : p c.toNat = true := by
 rw [List.all_eq_true] at h
 exact h c.toNat (List.mem_range.2 c.toNat_lt)
theorem byte_back (c : UInt8) : UInt8.ofNat c.toNat = c := by simp
theorem blank_ev (c : UInt8) : lockageref05_blank.f (c.toNat : Int) = some (([32, 9] : List UInt8).contains c) := by
 have h : ((List.range 256).all fun n => lockageref05_blank.f (n : Int) == some (([32, 9] : List UInt8).contains (UInt8.ofNat n))) = true := by kernel_rfl
 have := byte_all h c
 rw [byte_back] at this
 simpa using this
theorem wrap_nx (n : Nat) (h : n ≤ 9223372036854775806) : wrap64 ((n : Int) + 1) = ((n + 1 : Nat) : Int) := by unfold wrap64; omega
theorem right_snoc (l : List UInt8) (b : UInt8) : Lib.trimRightS (l ++ [b]) [32, 9] = if ([32, 9] : List UInt8).contains b = true then Lib.trimRightS l [32, 9] else l ++ [b] := by
 unfold Lib.trimRightS
 rw [List.reverse_append]
 show (List.dropWhile (([32, 9] : List UInt8).contains ·) (b :: l.reverse)).reverse = _
 rw [List.dropWhile_cons]
 split
 ·rfl
 ·rw [List.reverse_cons, List.reverse_reverse]
theorem right_cons (l : List UInt8) (b : UInt8) (hb : ([32, 9] : List UInt8).contains b = false) : Lib.trimRightS (b :: l) [32, 9] = b :: Lib.trimRightS l [32, 9] := by
 unfold Lib.trimRightS
 rw [List.reverse_cons]
 have : ∀ q : List UInt8, (q ++ [b]).dropWhile (([32, 9] : List UInt8).contains ·) = q.dropWhile (([32, 9] : List UInt8).contains ·) ++ [b] := by
  intro q
  induction q with
  | nil => rw [List.nil_append, List.dropWhile_cons, if_neg (by rw [hb]; exact Bool.false_ne_true)]; rfl
  | cons c q ih =>
   rw [List.cons_append, List.dropWhile_cons, List.dropWhile_cons]
   split
   ·exact ih
   ·rfl
 rw [this, List.reverse_append]
 rfl
theorem trim_swap : ∀ l : List UInt8, Lib.trimRightS (Lib.trimLeftS l [32, 9]) [32, 9] = Sp.trim l
 | [] => rfl
 | b :: l => by
  cases hb : ([32, 9] : List UInt8).contains b with
  | true =>
   rw [Sp.trim_blank hb, ← trim_swap l]
   unfold Lib.trimLeftS
   rw [List.dropWhile_cons, if_pos hb]
  | false =>
   unfold Sp.trim Lib.trimS
   rw [right_cons l b hb]
   unfold Lib.trimLeftS
   rw [List.dropWhile_cons, if_neg (by rw [hb]; exact Bool.false_ne_true), List.dropWhile_cons, if_neg (by rw [hb]; exact Bool.false_ne_true), right_cons l b hb]
theorem Trim_l1 (n : Nat) : ∀ (x : ByteArray) (k : Nat), x.size = n → x.size ≤ 9223372036854775806 → n + 1 ≤ k → lockageref05_Trim.l1 k x = some ⟨(Lib.trimRightS x.data.toList [32, 9]).toArray⟩ := by
 induction n with
 | zero =>
  intro x k hn hx hk
  obtain ⟨k, rfl⟩ : ∃ j, k = j + 1 := ⟨k - 1, by omega⟩
  have hsz := size_data x
  have e : x.data.toList = [] := List.eq_nil_of_length_eq_zero (by omega)
  unfold lockageref05_Trim.l1
  rw [if_neg (by omega), e]
  exact congrArg some (H.ba_ext (by rw [e]; rfl))
 | succ n ih =>
  intro x k hn hx hk
  obtain ⟨k, rfl⟩ : ∃ j, k = j + 1 := ⟨k - 1, by omega⟩
  have hsz := size_data x
  have hlt : n < x.size := by omega
  have ew : wrap64 ((x.size : Int) - 1) = (n : Int) := by rw [hn]; unfold wrap64; omega
  have hsp : x.data.toList = x.data.toList.take n ++ [x.data.toList[n]'(by omega)] := by
   have := List.take_append_getElem (l := x.data.toList) (i := n) (by omega)
   rw [this, List.take_of_length_le (by omega)]
  have hex : (x.extract 0 n).data.toList = x.data.toList.take n := by
   rw [Lib.extract_data]
   simp
  have hes : (x.extract 0 n).size = n := by rw [← size_data, hex, List.length_take]; omega
  unfold lockageref05_Trim.l1
  rw [ew, if_pos (by omega), if_pos (by omega), if_pos (by omega), bt_low hlt, blank_ev]
  simp only [Option.bind_some]
  rw [if_pos (show (n : Int) ≤ (x.size : Int) by omega), Int.toNat_natCast]
  generalize hb : x.data.toList[n]'(by omega) = b at hsp ⊢
  have er := right_snoc (x.data.toList.take n) b
  rw [← hsp] at er
  rw [er]
  split
  ·rw [ih _ k hes (by omega) (by omega), hex]
  ·exact congrArg some (H.ba_ext (by simp))
theorem Trim_l0 (n : Nat) : ∀ (x : ByteArray) (k : Nat), x.size = n → x.size ≤ 9223372036854775806 → 2 * n + 5 ≤ k → lockageref05_Trim.l0 k x = some ⟨(Sp.trim x.data.toList).toArray⟩ := by
 induction n with
 | zero =>
  intro x k hn hx hk
  obtain ⟨k, rfl⟩ : ∃ j, k = j + 2 := ⟨k - 2, by omega⟩
  have hsz := size_data x
  have e : x.data.toList = [] := List.eq_nil_of_length_eq_zero (by omega)
  unfold lockageref05_Trim.l0
  rw [if_neg (by omega)]
  unfold lockageref05_Trim.j1
  dsimp only
  rw [Trim_l1 0 x k hn hx (by omega), e]
  rfl
 | succ n ih =>
  intro x k hn hx hk
  obtain ⟨k, rfl⟩ : ∃ j, k = j + 2 := ⟨k - 2, by omega⟩
  have hsz := size_data x
  have hlt : 0 < x.size := by omega
  have hl0 : 0 < x.data.toList.length := by omega
  have hsp : x.data.toList = x.data.toList[0] :: x.data.toList.drop 1 := by
   have := List.drop_eq_getElem_cons hl0
   rw [List.drop_zero] at this
   exact this
  have hex : (x.extract 1 x.size).data.toList = x.data.toList.drop 1 := Lib.extract_to_end x 1
  have hes : (x.extract 1 x.size).size = n := by rw [← size_data, hex, List.length_drop]; omega
  have hbt := bt_low (x := x) (i := 0) hlt
  have hbl := blank_ev (x.data.toList[0])
  unfold lockageref05_Trim.l0
  rw [if_pos (by omega), if_pos (by omega)]
  rw [show bt x 0 = _ from hbt, hbl]
  simp only [Option.bind_some]
  rw [if_pos (show (1 : Int) ≤ (x.size : Int) by omega)]
  generalize x.data.toList[0] = b at hsp ⊢
  cases hb : ([32, 9] : List UInt8).contains b with
  | true =>
   rw [if_pos rfl, ih _ (k + 1) hes (by omega) (by omega), hex, hsp, Sp.trim_blank hb]
   rfl
  | false =>
   rw [if_neg (by decide)]
   unfold lockageref05_Trim.j1
   dsimp only
   rw [Trim_l1 (n + 1) x k hn hx (by omega), ← trim_swap x.data.toList]
   have : Lib.trimLeftS x.data.toList [32, 9] = x.data.toList := by
    rw [hsp]
    unfold Lib.trimLeftS
    rw [List.dropWhile_cons, if_neg (by rw [hb]; exact Bool.false_ne_true)]
   rw [this]
theorem RefTrim_ev (x : ByteArray) (hx : x.size ≤ 9223372036854775806) (k : Nat) (hk : 2 * x.size + 5 ≤ k) : lockageref05_Trim.f k x = some ⟨(Sp.trim x.data.toList).toArray⟩ := Trim_l0 x.size x k rfl hx hk
end Go.Proofs.YthmallhjbhphgaaGreatDoor.P
namespace Go.Proofs.YthmallhjbhphgaaGreatDoor.P
open Go.RowKit Go.Proofs.YthmallhjbhphgaaGreatDoorW.PrintWords Go.Proofs.YthmallhjbhphgaaGreatDoorW.PrintLast Go.Proofs.YthmallhjbhphgaaGreatDoorW.PrintMore
end Go.Proofs.YthmallhjbhphgaaGreatDoor.P
namespace Go.Proofs.YthmallhjbhphgaaGreatDoor.P
open Go.RowKit Go.Proofs.YthmallhjbhphgaaGreatDoorW.PrintWords Go.Proofs.YthmallhjbhphgaaGreatDoorW.PrintLast Go.Proofs.YthmallhjbhphgaaGreatDoorW.PrintMore
def kept2 (ps : List (List UInt8)) : List ByteArray := ((ps.map fun p => Sp.lower (Sp.trim p)).filter fun p => !p.isEmpty).map H.mkB
theorem kept2_cons (p : List UInt8) (ps : List (List UInt8)) : kept2 (p :: ps) = (if (Sp.lower (Sp.trim p)).isEmpty = true then [] else [H.mkB (Sp.lower (Sp.trim p))]) ++ kept2 ps := by
 unfold kept2
 rw [List.map_cons, List.filter_cons]
 cases (Sp.lower (Sp.trim p)).isEmpty <;> simp
theorem parts_at {q r : List UInt8} (h : (44 : UInt8) ∉ q) : Sp.parts 44 (q ++ 44 :: r) = q :: Sp.parts 44 r := by
 rw [H.parts_some (by simp), Sp.take_to h, Sp.drop_to h]
 rfl
theorem Items_j1 (x : ByteArray) (hx : x.size ≤ 4294967280) (acc : List ByteArray) (fr i k : Nat) (hf : fr ≤ i) (hi : i ≤ x.size) (hk : 2 * x.size + 20 ≤ k) (ha : acc.length ≤ i) (R : List ByteArray)
  (hR : lockageref05_Items.l0 k x (acc ++ kept2 [(x.data.toList.drop fr).take (i - fr)]) ((i + 1 : Nat) : Int) ((i + 1 : Nat) : Int) = some R) :
  lockageref05_Items.j1 (k + 1) x acc fr i false = some R := by
 have hsz := size_data x
 have hex : (x.extract fr i).data.toList = (x.data.toList.drop fr).take (i - fr) := Lib.extract_data x fr i
 have hes : (x.extract fr i).size ≤ x.size := by rw [← size_data, hex, List.length_take, List.length_drop]; omega
 unfold lockageref05_Items.j1
 rw [if_neg (by decide), if_pos (by omega), if_pos (by omega), if_pos (by omega), Int.toNat_natCast, Int.toNat_natCast, RefTrim_ev _ (by omega) k (by omega)]
 simp only [Option.bind_some]
 have ht := Sp.trim_length (x.extract fr i).data.toList
 rw [size_data] at ht
 rw [Low_ev _ (by rw [mk_size]; omega) k (by rw [mk_size]; omega)]
 simp only [Option.bind_some]
 rw [toList_data, wrap_nx i (by omega)]
 rw [kept2_cons, ← hex] at hR
 show (if Sp.lower (Sp.trim (x.extract fr i).data.toList) = [] then _ else _) = _
 by_cases h : Sp.lower (Sp.trim (x.extract fr i).data.toList) = []
 ·rw [if_pos h]
  rw [if_pos (by rw [h]; rfl)] at hR
  simpa [kept2] using hR
 ·rw [if_neg h, if_pos (by omega)]
  rw [if_neg (by simpa using h)] at hR
  simpa [kept2, H.mkB] using hR
theorem RefItems_at (x : ByteArray) (hx : x.size ≤ 4294967280) (d : Nat) :
  ∀ (fr i k : Nat) (acc : List ByteArray), x.size - i = d → fr ≤ i → i ≤ x.size → (44 : UInt8) ∉ (x.data.toList.drop fr).take (i - fr) → acc.length ≤ i → 2 * d + 2 * x.size + 30 ≤ k →
   lockageref05_Items.l0 k x acc fr i = some (acc ++ kept2 (Sp.parts 44 (x.data.toList.drop fr))) := by
 have hsz := size_data x
 induction d with
 | zero =>
  intro fr i k acc hd hf hi hno ha hk
  obtain ⟨k, rfl⟩ : ∃ j, k = j + 3 := ⟨k - 3, by omega⟩
  have hti : (x.data.toList.drop fr).take (i - fr) = x.data.toList.drop fr := List.take_of_length_le (by rw [List.length_drop]; omega)
  unfold lockageref05_Items.l0
  rw [if_pos (by omega), if_neg (by omega)]
  refine Items_j1 x hx acc fr i (k + 1) hf hi (by omega) ha _ ?_
  unfold lockageref05_Items.l0
  rw [if_neg (by omega), hti]
  rw [hti] at hno
  rw [H.parts_none hno]
 | succ d ih =>
  intro fr i k acc hd hf hi hno ha hk
  obtain ⟨k, rfl⟩ : ∃ j, k = j + 2 := ⟨k - 2, by omega⟩
  have hlt : i < x.size := by omega
  have hl : i < x.data.toList.length := by omega
  unfold lockageref05_Items.l0
  rw [if_pos (by omega), if_pos (by omega), if_pos (by omega), bt_low hlt]
  have hdr : x.data.toList.drop fr = (x.data.toList.drop fr).take (i - fr) ++ x.data.toList[i] :: x.data.toList.drop (i + 1) := by
   have h1 := (List.take_append_drop (i - fr) (x.data.toList.drop fr)).symm
   rw [List.drop_drop, show fr + (i - fr) = i by omega, List.drop_eq_getElem_cons hl] at h1
   exact h1
  by_cases hc : x.data.toList[i] = 44
  ·have hb : ((x.data.toList[i].toNat : Int) != 44) = false := by rw [hc]; rfl
   rw [hb]
   refine Items_j1 x hx acc fr i k hf hi (by omega) ha _ ?_
   have hlen : (kept2 [(x.data.toList.drop fr).take (i - fr)]).length ≤ 1 := by
    unfold kept2
    rw [List.length_map]
    exact Nat.le_trans (List.length_filter_le _ _) (by simp)
   rw [ih (i + 1) (i + 1) k _ (by omega) (Nat.le_refl _) (by omega) (by simp) (by rw [List.length_append]; omega) (by omega), List.append_assoc]
   congr 2
   rw [hdr, hc, parts_at hno, List.take_append_of_le_length (by rw [List.length_take, List.length_drop]; omega), List.take_take, Nat.min_self]
   rw [kept2_cons, kept2_cons]
   simp [kept2]
  ·have hb : ((x.data.toList[i].toNat : Int) != 44) = true := by
    simp only [bne_iff_ne]
    intro e
    apply hc
    have : x.data.toList[i].toNat = 44 := by omega
    rw [← UInt8.ofNat_toNat (x := x.data.toList[i]), this]
    rfl
   rw [hb]
   unfold lockageref05_Items.j1
   rw [if_pos rfl, wrap_nx i (by omega)]
   refine ih fr (i + 1) k acc (by omega) (by omega) (by omega) ?_ (by omega) (by omega)
   have e1 : (x.data.toList.drop fr).take (i + 1 - fr) = (x.data.toList.drop fr).take (i - fr) ++ [x.data.toList[i]] := by
    rw [show i + 1 - fr = (i - fr) + 1 by omega, List.take_succ_eq_append_getElem (by rw [List.length_drop]; omega), List.getElem_drop]
    congr 2
    congr 1
    omega
   rw [e1]
   intro hm
   rcases List.mem_append.1 hm with hm | hm
   ·exact hno hm
   ·exact hc (List.mem_singleton.1 hm).symm
theorem RefItems_ev (x : ByteArray) (hx : x.size ≤ 4294967280) (k : Nat) (hk : 4 * x.size + 30 ≤ k) : lockageref05_Items.f k x = some (itemsB x) := by
 unfold lockageref05_Items.f
 have := RefItems_at x hx x.size 0 0 k [] (Nat.sub_zero _) (Nat.le_refl _) (Nat.zero_le _) (by simp) (by simp) (by omega)
 rw [show lockageref05_Items.l0 k x [] 0 0 = _ from this]
 rfl
end Go.Proofs.YthmallhjbhphgaaGreatDoor.P
namespace Go.Proofs.YthmallhjbhphgaaGreatDoor.P
open Go.RowKit Go.Proofs.YthmallhjbhphgaaGreatDoorW.PrintWords Go.Proofs.YthmallhjbhphgaaGreatDoorW.PrintLast Go.Proofs.YthmallhjbhphgaaGreatDoorW.PrintMore
def digX (c : UInt8) : Int := if 48 ≤ c.toNat && c.toNat ≤ 57 then (c.toNat : Int) - 48 else if 97 ≤ c.toNat && c.toNat ≤ 102 then (c.toNat : Int) - 87 else if 65 ≤ c.toNat && c.toNat ≤ 70 then (c.toNat : Int) - 55 else -1
theorem digit_evx (c : UInt8) (k : Nat) (hk : 20 ≤ k) : num_digit.f k (c.toNat : Int) 16 = some (digX c) := by
 have h : ((List.range 256).all fun n => num_digit.f 20 (n : Int) 16 == some (digX (UInt8.ofNat n))) = true := by kernel_rfl
 have := byte_all h c
 rw [byte_back] at this
 exact at_rounds (num_digit.mono _ _) hk (by simpa using this)
theorem value_evx (c : UInt8) (k : Nat) (hk : 20 ≤ k) : lockageref03_value.f k (c.toNat : Int) 16 = some (digX c) := by
 have h : ((List.range 256).all fun n => lockageref03_value.f 20 (n : Int) 16 == some (digX (UInt8.ofNat n))) = true := by kernel_rfl
 have := byte_all h c
 rw [byte_back] at this
 exact at_rounds (lockageref03_value.mono _ _) hk (by simpa using this)
def isHex (c : UInt8) : Bool := (48 ≤ c.toNat && c.toNat ≤ 57) || (97 ≤ c.toNat && c.toNat ≤ 102) || (65 ≤ c.toNat && c.toNat ≤ 70)
theorem digX_yes {c : UInt8} (h : isHex c = true) : 0 ≤ digX c ∧ digX c ≤ 15 := by
 have a : ((List.range 256).all fun n => !isHex (UInt8.ofNat n) || (decide (0 ≤ digX (UInt8.ofNat n)) && decide (digX (UInt8.ofNat n) ≤ 15))) = true := by kernel_rfl
 have := byte_all a c
 rw [byte_back, h] at this
 simpa using this
theorem digX_no {c : UInt8} (h : isHex c = false) : digX c = -1 := by
 have a : ((List.range 256).all fun n => isHex (UInt8.ofNat n) || decide (digX (UInt8.ofNat n) = -1)) = true := by kernel_rfl
 have := byte_all a c
 rw [byte_back, h] at this
 simpa using this
def numX : List UInt8 → Int → Option Int
 | [], n => some n
 | c :: l, n => if n * 16 + digX c ≤ 9007199254740992 then numX l (n * 16 + digX c) else none
def outX : Option Int → Int × Int
 | some n => (n, 0)
 | none => (0, 3)
def parseX (l : List UInt8) : Int × Int := if l = [] then (0, 1) else if l.all isHex = true then outX (numX l 0) else (0, 1)
theorem all_dropx (l : List UInt8) (i : Nat) (h : i < l.length) : (l.drop i).all isHex = (isHex l[i] && (l.drop (i + 1)).all isHex) := by
 rw [List.drop_eq_getElem_cons h, List.all_cons]
theorem numX_drop (l : List UInt8) (i : Nat) (h : i < l.length) (n : Int) : numX (l.drop i) n = if n * 16 + digX l[i] ≤ 9007199254740992 then numX (l.drop (i + 1)) (n * 16 + digX l[i]) else none := by
 rw [List.drop_eq_getElem_cons h]
 rfl
theorem Fits_fx (n : Int) : num_Fits.f n = some (decide (0 ≤ n) && decide (n ≤ 9007199254740992)) := by
 unfold num_Fits.f
 by_cases h : n ≥ 0
 ·rw [if_pos h, decide_eq_true (show 0 ≤ n from h), Bool.true_and]
 ·rw [if_neg h, decide_eq_false (show ¬ 0 ≤ n from h), Bool.false_and]
theorem RFits_fx (n : Int) : lockageref03_Fits.f n = some (decide (0 ≤ n) && decide (n ≤ 9007199254740992)) := by
 unfold lockageref03_Fits.f
 by_cases h : n ≥ 0
 ·rw [if_pos h, decide_eq_true (show 0 ≤ n from h), Bool.true_and]
 ·rw [if_neg h, decide_eq_false (show ¬ 0 ≤ n from h), Bool.false_and]
theorem wrap_ofx {n : Int} (h : -9223372036854775808 ≤ n ∧ n ≤ 9223372036854775807) : wrap64 n = n := by unfold wrap64; omega
theorem num_badx (x : ByteArray) (hx : x.size ≤ 9223372036854775806) (d : Nat) : ∀ (i k : Nat), x.size - i = d → i ≤ x.size → 2 * d + 30 ≤ k →
  num_Parse.l0 k x 16 0 3 (x.size : Int) i = some (if (x.data.toList.drop i).all isHex = true then (0, 3) else (0, 1)) := by
 have hsz := size_data x
 induction d with
 | zero =>
  intro i k hd hi hk
  obtain ⟨k, rfl⟩ : ∃ j, k = j + 1 := ⟨k - 1, by omega⟩
  unfold num_Parse.l0
  rw [if_neg (by omega), List.drop_of_length_le (by omega)]
  rfl
 | succ d ih =>
  intro i k hd hi hk
  obtain ⟨k, rfl⟩ : ∃ j, k = j + 2 := ⟨k - 2, by omega⟩
  have hlt : i < x.size := by omega
  have hl : i < x.data.toList.length := by omega
  unfold num_Parse.l0
  rw [if_pos (by omega), if_pos (by omega), if_pos (by omega), bt_low hlt, digit_evx _ (k + 1) (by omega), all_dropx _ _ hl]
  simp only [Option.bind_some]
  cases hc : isHex x.data.toList[i] with
  | false =>
   rw [if_pos (digX_no hc)]
   rfl
  | true =>
   have hv := digX_yes hc
   rw [if_neg (by omega), if_neg (by decide)]
   unfold num_Parse.j2
   rw [Fits_fx]
   simp only [Option.bind_some]
   rw [if_pos (by decide), wrap_nx i (by omega), ih (i + 1) k (by omega) (by omega) (by omega), Bool.true_and]
theorem num_goodx (x : ByteArray) (hx : x.size ≤ 9223372036854775806) (d : Nat) : ∀ (i k : Nat) (n : Int), x.size - i = d → i ≤ x.size → 2 * d + 30 ≤ k → 0 ≤ n → n ≤ 9007199254740992 →
  num_Parse.l0 k x 16 n 0 (x.size : Int) i = some (if (x.data.toList.drop i).all isHex = true then outX (numX (x.data.toList.drop i) n) else (0, 1)) := by
 have hsz := size_data x
 induction d with
 | zero =>
  intro i k n hd hi hk h0 h1
  obtain ⟨k, rfl⟩ : ∃ j, k = j + 1 := ⟨k - 1, by omega⟩
  unfold num_Parse.l0
  rw [if_neg (by omega), List.drop_of_length_le (by omega)]
  rfl
 | succ d ih =>
  intro i k n hd hi hk h0 h1
  obtain ⟨k, rfl⟩ : ∃ j, k = j + 2 := ⟨k - 2, by omega⟩
  have hlt : i < x.size := by omega
  have hl : i < x.data.toList.length := by omega
  unfold num_Parse.l0
  rw [if_pos (by omega), if_pos (by omega), if_pos (by omega), bt_low hlt, digit_evx _ (k + 1) (by omega), all_dropx _ _ hl, numX_drop _ _ hl]
  simp only [Option.bind_some]
  cases hc : isHex x.data.toList[i] with
  | false =>
   rw [if_pos (digX_no hc)]
   rfl
  | true =>
   have hv := digX_yes hc
   generalize digX x.data.toList[i] = v at hv ⊢
   rw [if_neg (by omega), if_pos trivial, wrap_ofx (n := n * 16) (by omega), wrap_ofx (n := n * 16 + v) (by omega)]
   unfold num_Parse.j2
   rw [Fits_fx, decide_eq_true (show 0 ≤ n * 16 + v by omega)]
   simp only [Option.bind_some, Bool.true_and]
   by_cases hm : n * 16 + v ≤ 9007199254740992
   ·rw [if_pos (decide_eq_true hm), if_pos hm, wrap_nx i (by omega), ih (i + 1) k _ (by omega) (by omega) (by omega) (by omega) hm]
   ·rw [if_neg (by simpa using hm), if_neg hm, wrap_nx i (by omega), num_badx x hx d (i + 1) k (by omega) (by omega) (by omega)]
    rfl
theorem Parse_evx (x : ByteArray) (hx : x.size ≤ 9223372036854775806) (k : Nat) (hk : 2 * x.size + 40 ≤ k) : num_Parse.f k x 16 = some (parseX x.data.toList) := by
 obtain ⟨k, rfl⟩ : ∃ j, k = j + 1 := ⟨k - 1, by omega⟩
 unfold num_Parse.f parseX
 rw [toList_data]
 by_cases h : x.data.toList = []
 ·rw [if_pos h, if_pos h]
  unfold num_Parse.j0
  rfl
 ·rw [if_neg h, if_neg h, if_neg (by decide)]
  unfold num_Parse.j0
  dsimp only
  rw [if_neg (by decide)]
  have := num_goodx x hx x.size 0 k 0 (Nat.sub_zero _) (Nat.zero_le _) (by omega) (by decide) (by decide)
  rw [List.drop_zero] at this
  exact this
theorem ref_l1x (x : ByteArray) (hx : x.size ≤ 9223372036854775806) (hall : x.data.toList.all isHex = true) (d : Nat) : ∀ (i k : Nat) (n : Int), x.size - i = d → i ≤ x.size → 2 * d + 60 ≤ k → 0 ≤ n → n ≤ 9007199254740992 →
  lockageref03_Parse.l1 k x 16 n i = some (outX (numX (x.data.toList.drop i) n)) := by
 have hsz := size_data x
 induction d with
 | zero =>
  intro i k n hd hi hk h0 h1
  obtain ⟨k, rfl⟩ : ∃ j, k = j + 1 := ⟨k - 1, by omega⟩
  unfold lockageref03_Parse.l1
  rw [if_neg (by omega), List.drop_of_length_le (by omega)]
  rfl
 | succ d ih =>
  intro i k n hd hi hk h0 h1
  obtain ⟨k, rfl⟩ : ∃ j, k = j + 2 := ⟨k - 2, by omega⟩
  have hlt : i < x.size := by omega
  have hl : i < x.data.toList.length := by omega
  have hv := digX_yes (List.all_eq_true.1 hall _ (List.getElem_mem hl))
  have eq16 : wrap64 (Int.tdiv 9007199254740992 16) = 562949953421312 := by unfold wrap64; decide
  have hM : lockageref03_Mul.f (k + 1) n 16 = some (if n > 562949953421312 then (0, 3) else (n * 16, 0)) := by
   unfold lockageref03_Mul.f
   rw [RFits_fx, RFits_fx, decide_eq_true h0, decide_eq_true h1]
   simp only [Option.bind_some, Bool.and_self, if_true]
   unfold lockageref03_Mul.j0
   dsimp only
   rw [if_neg (by decide), if_pos (by decide), if_neg (by decide), eq16]
   by_cases h : n > 562949953421312
   ·rw [if_pos h, if_pos h]
   ·rw [if_neg h, if_neg h, wrap_ofx (by omega)]
  have hA : ∀ a v : Int, 0 ≤ a → a ≤ 9007199254740992 → 0 ≤ v → v ≤ 15 → lockageref03_Add.f (k + 1) a v = some (if a + v ≤ 9007199254740992 then (a + v, 0) else (0, 3)) := by
   intro a v ha0 ha1 hv0 hv1
   unfold lockageref03_Add.f
   rw [RFits_fx, RFits_fx, decide_eq_true ha0, decide_eq_true ha1, decide_eq_true hv0, decide_eq_true (show v ≤ 9007199254740992 by omega)]
   simp only [Option.bind_some, Bool.and_self, if_true]
   unfold lockageref03_Add.j0
   dsimp only
   rw [if_neg (by decide), wrap_ofx (n := 9007199254740992 - v) (by omega)]
   by_cases h : a + v ≤ 9007199254740992
   ·rw [if_neg (by omega), if_pos h, wrap_ofx (by omega)]
   ·rw [if_pos (by omega), if_neg h]
  unfold lockageref03_Parse.l1
  rw [if_pos (by omega), hM, numX_drop _ _ hl]
  simp only [Option.bind_some]
  rw [if_pos (by omega), bt_low hlt, value_evx _ (k + 1) (by omega)]
  simp only [Option.bind_some]
  generalize digX x.data.toList[i] = v at hv ⊢
  by_cases h : n > 562949953421312
  ·rw [if_pos h, hA 0 v (by decide) (by decide) hv.1 hv.2]
   simp only [Option.bind_some]
   rw [if_neg (by decide), if_neg (by omega)]
   rfl
  ·rw [if_neg h, hA (n * 16) v (by omega) (by omega) hv.1 hv.2]
   simp only [Option.bind_some]
   rw [if_pos trivial]
   by_cases hm : n * 16 + v ≤ 9007199254740992
   ·rw [if_pos hm, if_pos hm]
    simp only [if_true]
    rw [wrap_nx i (by omega)]
    exact ih (i + 1) (k + 1) _ (by omega) (by omega) (by omega) (by omega) hm
   ·rw [if_neg hm, if_neg hm, if_neg (by decide)]
    rfl
theorem ref_l0x (x : ByteArray) (hx : x.size ≤ 9223372036854775806) (d : Nat) : ∀ (i k : Nat), x.size - i = d → i ≤ x.size → (x.data.toList.take i).all isHex = true → d + 2 * x.size + 80 ≤ k →
  lockageref03_Parse.l0 k x 16 i = some (if x.data.toList.all isHex = true then outX (numX x.data.toList 0) else (0, 1)) := by
 have hsz := size_data x
 induction d with
 | zero =>
  intro i k hd hi ht hk
  obtain ⟨k, rfl⟩ : ∃ j, k = j + 1 := ⟨k - 1, by omega⟩
  rw [List.take_of_length_le (by omega)] at ht
  unfold lockageref03_Parse.l0
  rw [if_neg (by omega), if_pos ht]
  have := ref_l1x x hx ht x.size 0 k 0 (Nat.sub_zero _) (Nat.zero_le _) (by omega) (by decide) (by decide)
  rw [List.drop_zero] at this
  exact this
 | succ d ih =>
  intro i k hd hi ht hk
  obtain ⟨k, rfl⟩ : ∃ j, k = j + 1 := ⟨k - 1, by omega⟩
  have hlt : i < x.size := by omega
  have hl : i < x.data.toList.length := by omega
  unfold lockageref03_Parse.l0
  rw [if_pos (by omega), if_pos (by omega), bt_low hlt, value_evx _ k (by omega)]
  simp only [Option.bind_some]
  cases hc : isHex x.data.toList[i] with
  | false =>
   have hall : x.data.toList.all isHex = false := by
    rw [List.all_eq_false]
    exact ⟨_, List.getElem_mem hl, by rw [hc]; exact Bool.false_ne_true⟩
   rw [if_pos (by rw [digX_no hc]; decide), if_neg (by rw [hall]; exact Bool.false_ne_true)]
  | true =>
   have hv := digX_yes hc
   rw [if_neg (by omega), wrap_nx i (by omega)]
   refine ih (i + 1) k (by omega) (by omega) ?_ (by omega)
   rw [List.take_succ_eq_append_getElem hl, List.all_append, ht, List.all_cons, hc]
   rfl
theorem RefParse_evx (x : ByteArray) (hx : x.size ≤ 9223372036854775806) (k : Nat) (hk : 4 * x.size + 100 ≤ k) : lockageref03_Parse.f k x 16 = some (parseX x.data.toList) := by
 obtain ⟨k, rfl⟩ : ∃ j, k = j + 1 := ⟨k - 1, by omega⟩
 unfold lockageref03_Parse.f parseX
 rw [toList_data]
 by_cases h : x.data.toList = []
 ·rw [if_pos h, if_pos h]
  unfold lockageref03_Parse.j0
  rfl
 ·rw [if_neg h, if_neg h, if_neg (by decide)]
  unfold lockageref03_Parse.j0
  dsimp only
  rw [if_neg (by decide)]
  exact ref_l0x x hx x.size 0 k (Nat.sub_zero _) (Nat.zero_le _) rfl (by omega)
end Go.Proofs.YthmallhjbhphgaaGreatDoor.P
namespace Go.Proofs.YthmallhjbhphgaaGreatDoor.P
open Go.RowKit Go.Proofs.YthmallhjbhphgaaGreatDoorW.PrintWords Go.Proofs.YthmallhjbhphgaaGreatDoorW.PrintLast Go.Proofs.YthmallhjbhphgaaGreatDoorW.PrintMore
end Go.Proofs.YthmallhjbhphgaaGreatDoor.P
namespace Go.Proofs.YthmallhjbhphgaaGreatDoor.P
open Go.RowKit Go.Proofs.YthmallhjbhphgaaGreatDoorW.PrintWords Go.Proofs.YthmallhjbhphgaaGreatDoorW.PrintLast Go.Proofs.YthmallhjbhphgaaGreatDoorW.PrintMore
end Go.Proofs.YthmallhjbhphgaaGreatDoor.P
namespace Go.Proofs.YthmallhjbhphgaaGreatDoor.P
open Go.RowKit Go.Proofs.YthmallhjbhphgaaGreatDoorW.PrintWords Go.Proofs.YthmallhjbhphgaaGreatDoorW.PrintLast Go.Proofs.YthmallhjbhphgaaGreatDoorW.PrintMore
structure FitK (fs : List S37) : Prop where
 n : fs.length ≤ 2010
 x : ∀ x ∈ fs, x.f0.size ≤ 2010 ∧ x.f1.size ≤ 2010
theorem getK_mem {fs : List S37} {a v : ByteArray} (h : v ∈ getS fs a) : ∃ x ∈ fs, v = x.f1 := by
 unfold getS at h
 obtain ⟨x, hx, rfl⟩ := List.mem_map.1 h
 exact ⟨x, (List.mem_filter.1 hx).1, rfl⟩
theorem FitK.get {fs : List S37} (h : FitK fs) (a : ByteArray) : (getS fs a).length ≤ 2010 ∧ ∀ v ∈ getS fs a, v.size ≤ 2010 := by
 refine ⟨Nat.le_trans (getS_length _ _) h.n, fun v hv => ?_⟩
 obtain ⟨x, hx, rfl⟩ := getK_mem hv
 exact (h.x x hx).2
theorem partsK_le (c : UInt8) : ∀ (l p : List UInt8), p ∈ Sp.parts c l → p.length ≤ l.length
 | [], p, h => by
  simp [Sp.parts] at h
  simp [h]
 | b :: l, p, h => by
  rw [Sp.parts] at h
  split at h
  ·rcases List.mem_cons.1 h with rfl | h
   ·simp
   ·have := partsK_le c l p h; simp; omega
  ·split at h
   ·rename_i e
    have : p = [b] := by simpa using h
    simp [this]
   ·rename_i q r e
    rcases List.mem_cons.1 h with rfl | h
    ·have := partsK_le c l q (by rw [e]; exact List.mem_cons_self)
     simp; omega
    ·have := partsK_le c l p (by rw [e]; exact List.mem_cons_of_mem _ h)
     simp; omega
theorem itemK_size (v x : ByteArray) (h : x ∈ itemsB v) : x.size ≤ v.size := by
 unfold itemsB Sp.items at h
 obtain ⟨l, hl, rfl⟩ := List.mem_map.1 h
 have h2 := (List.mem_filter.1 hl).1
 obtain ⟨p, hp, rfl⟩ := List.mem_map.1 h2
 have h3 := partsK_le 44 _ p hp
 have h4 := Sp.trim_length p
 have h5 := Sp.lower_length (Sp.trim p)
 show (⟨_⟩ : ByteArray).size ≤ _
 rw [mk_size]
 rw [size_data] at h3
 omega
theorem itemK_low (v x : ByteArray) (h : x ∈ itemsB v) : Sp.lower x.data.toList = x.data.toList := by
 unfold itemsB Sp.items at h
 obtain ⟨l, hl, rfl⟩ := List.mem_map.1 h
 have h2 := (List.mem_filter.1 hl).1
 obtain ⟨p, hp, rfl⟩ := List.mem_map.1 h2
 show Sp.lower (Sp.lower (Sp.trim p)) = Sp.lower (Sp.trim p)
 exact Sp.lower_idem _
theorem flatK_len (B : Nat) : ∀ g : List ByteArray, (∀ v ∈ g, v.size ≤ B) → (g.flatMap itemsB).length ≤ g.length * (B + 1)
 | [], _ => by simp
 | v :: g, h => by
  have h1 := flatK_len B g (fun x hx => h x (List.mem_cons_of_mem _ hx))
  have h2 := items_le v
  have h3 := h v List.mem_cons_self
  rw [List.flatMap_cons, List.length_append, List.length_cons, Nat.succ_mul]
  omega
def itemsN (fs : List S37) (a : ByteArray) : List ByteArray := (getS fs a).flatMap itemsB
theorem FitK.len {fs : List S37} (h : FitK fs) (a : ByteArray) : (itemsN fs a).length ≤ 4042110 := by
 obtain ⟨h1, h2⟩ := h.get a
 have h3 := flatK_len 2010 _ h2
 have h4 : (getS fs a).length * (2010 + 1) ≤ 2010 * 2011 := Nat.mul_le_mul h1 (Nat.le_refl _)
 unfold itemsN
 omega
theorem FitK.item {fs : List S37} (h : FitK fs) (a x : ByteArray) (hx : x ∈ itemsN fs a) : x.size ≤ 2010 ∧ Sp.lower x.data.toList = x.data.toList := by
 unfold itemsN at hx
 obtain ⟨v, hv, hx⟩ := List.mem_flatMap.1 hx
 have := (h.get a).2 v hv
 have := itemK_size v x hx
 exact ⟨by omega, itemK_low v x hx⟩
theorem itemsK_f {v : ByteArray} (h : v.size ≤ 4294967280) : field_Items.f v = some (itemsB v) := by unfold field_Items.f; rw [if_pos h]
theorem key_items_l0 (g : List ByteArray) (hg : ∀ v ∈ g, v.size ≤ 4294967280) (hl : g.length < 4398046511104) :
  ∀ (d i k : Nat) (acc : List ByteArray), g.length - i = d → i ≤ g.length → acc.length + ((g.drop i).flatMap itemsB).length < 8796093022208 → d + 1 ≤ k → key_items.l0 k acc g (g.length : Int) i = some (acc ++ (g.drop i).flatMap itemsB)
 | d, i, 0, acc, hd, hi, ha, hk => by omega
 | d, i, k + 1, acc, hd, hi, ha, hk => by
  unfold key_items.l0
  by_cases hlt : i < g.length
  ·have ed : g.drop i = g[i] :: g.drop (i + 1) := List.drop_eq_getElem_cons hlt
   rw [ed, List.flatMap_cons, List.length_append] at ha
   have hx : rdOf ByteArray.empty g (i : Int) = g[i] := by simp [rdOf, hlt]
   rw [if_pos (by omega), if_pos (by omega), if_pos (by omega), hx, itemsK_f (hg _ (List.getElem_mem hlt))]
   simp only [Option.bind_some]
   rw [if_pos (by omega), wrap_up i (by omega), key_items_l0 g hg hl (d - 1) (i + 1) k _ (by omega) (by omega) (by rw [List.length_append]; omega) (by omega), ed, List.flatMap_cons, List.append_assoc]
  ·rw [if_neg (by omega), List.drop_of_length_le (by omega)]
   simp
theorem key_items_ev {fs : List S37} (h : FitK fs) (a : ByteArray) (ha : a.size ≤ 5000) (k : Nat) (hk : 3000 ≤ k) : key_items.f k fs a = some (itemsN fs a) := by
 have hn := h.n
 obtain ⟨h1, h2⟩ := h.get a
 have h3 := h.len a
 unfold itemsN at h3
 unfold key_items.f
 rw [field_Get_ev fs a (by omega) (by omega) (fun x hx => by have := (h.x x hx).1; omega) k (by omega)]
 simp only [Option.bind_some]
 have := key_items_l0 (getS fs a) (fun v hv => by have := h2 v hv; omega) (by omega) (getS fs a).length 0 k [] (Nat.sub_zero _) (Nat.zero_le _) (by rw [List.drop_zero]; simp only [List.length_nil]; omega) (by omega)
 rw [List.drop_zero, List.nil_append] at this
 exact this
theorem anyO_some (p : ByteArray → Bool) : ∀ l : List ByteArray, anyO (fun x => some (p x)) l = some (l.any p)
 | [] => rfl
 | x :: l => by
  unfold anyO
  rw [Option.bind_some, anyO_some p l, List.any_cons]
  cases p x <;> rfl
theorem anyO_congr {f g : ByteArray → Option Bool} : ∀ l : List ByteArray, (∀ x ∈ l, f x = g x) → anyO f l = anyO g l
 | [], _ => rfl
 | x :: l, h => by
  unfold anyO
  rw [h x List.mem_cons_self, anyO_congr l (fun y hy => h y (List.mem_cons_of_mem _ hy))]
def directsS (fs : List S37) (ns : List ByteArray) : Bool := (itemsN fs ccB).any fun x => hasT ns x.toList
theorem key_directs_ev {fs : List S37} (h : FitK fs) (ns : List ByteArray) (hn : ns.length ≤ 100) (k : Nat) (hk : 3000 ≤ k) : key_directs.f k fs ns = some (directsS fs ns) := by
 unfold key_directs.f
 rw [show key_items.f k fs (⟨#[67, 97, 99, 104, 101, 45, 67, 111, 110, 116, 114, 111, 108]⟩ : ByteArray) = _ from key_items_ev h ccB (by decide) k hk, Option.bind_some, anyO_congr (g := fun x => some (hasT ns x.toList)) _ (fun x hx => Contains_ev ns x (by omega) k (by omega)), anyO_some]
 rfl
def sharedS (m : ByteArray) (fs : List S37) (body : ByteArray) : Bool := decide (m = getB) && (decide (body.size = 0) && (!directsS fs noStore && !(ownNames.any fun x => decide (0 < (getS fs x).length))))
theorem key_Shared_ev (m t : ByteArray) (st : Int) (rs : ByteArray) (mi : Int) {fs : List S37} (h : FitK fs) (body : ByteArray) (k : Nat) (hk : 3000 ≤ k) : key_Shared.f k m t st rs mi fs body = some (sharedS m fs body) := by
 have hn := h.n
 unfold key_Shared.f sharedS
 by_cases h1 : m = getB
 ·rw [if_pos h1, decide_eq_true h1]
  by_cases h2 : body.size = 0
  ·rw [if_pos h2, decide_eq_true h2, key_directs_ev h noStore (by decide) k hk, Option.bind_some]
   have e : anyO (fun x => (field_Get.f k fs x).bind fun v => some (decide (0 < v.length))) ownNames = some (ownNames.any fun x => decide (0 < (getS fs x).length)) := by
    rw [anyO_congr (g := fun x => some (decide (0 < (getS fs x).length))) _ (fun x hx => by
     have hx2 : x.size ≤ 100 := by
      have : (ownNames.all fun x => decide (x.size ≤ 100)) = true := by decide
      exact of_decide_eq_true (List.all_eq_true.1 this x hx)
     rw [field_Get_ev fs x (by omega) (by omega) (fun y hy => by have := (h.x y hy).1; omega) k (by omega), Option.bind_some]), anyO_some]
   rw [e, Option.bind_some]
   cases directsS fs noStore <;> rfl
  ·rw [if_neg h2, decide_eq_false h2]
   rfl
 ·rw [if_neg h1, decide_eq_false h1]
  rfl
def varyB : ByteArray := ⟨#[86, 97, 114, 121]⟩
def varyR (fs : List S37) : List ByteArray × Bool := if ([42] : List UInt8) ∈ (itemsN fs varyB).map (·.data.toList) then ([], false) else (varyL (itemsN fs varyB), true)
theorem key_Vary_ev {fs : List S37} (h : FitK fs) (k : Nat) (hk : 3000 ≤ k) : key_Vary.f k fs = some (varyR fs) := by
 have h1 := h.len varyB
 unfold key_Vary.f varyR
 rw [show key_items.f k fs (⟨#[86, 97, 114, 121]⟩ : ByteArray) = _ from key_items_ev h varyB (by decide) k hk, Option.bind_some, if_pos ⟨by omega, fun x hx => by have := (h.item varyB x hx).1; omega⟩]
 split <;> rfl
theorem addS_len (s : List UInt8) : ∀ l : List (List UInt8), (addS s l).length ≤ l.length + 1
 | [] => by simp [addS]
 | x :: l => by
  have := addS_len s l
  unfold addS
  split
  ·simp
  ·split
   ·simp
   ·simp; omega
theorem varyS_len (l : List (List UInt8)) : (varyS l).length ≤ l.length := by
 have key : ∀ (l acc : List (List UInt8)), (l.foldl (fun acc s => addS s acc) acc).length ≤ acc.length + l.length := by
  intro l
  induction l with
  | nil => intro acc; simp
  | cons s l ih =>
   intro acc
   have h1 := ih (addS s acc)
   have h2 := addS_len s acc
   rw [List.foldl_cons, List.length_cons]
   omega
 have := key l []
 simpa [varyS] using this
theorem varyL_mem (its : List ByteArray) (y : ByteArray) : y ∈ varyL its ↔ y ∈ its := by
 unfold varyL
 rw [List.mem_map]
 constructor
 ·rintro ⟨l, hl, rfl⟩
  obtain ⟨x, hx, rfl⟩ := List.mem_map.1 ((varyS_mem _ _).1 hl)
  simpa using hx
 ·intro h
  exact ⟨y.data.toList, (varyS_mem _ _).2 (List.mem_map.2 ⟨y, h, rfl⟩), by simp⟩
theorem vary_names {fs : List S37} (h : FitK fs) : (varyR fs).1.length ≤ 4042110 ∧ ∀ x ∈ (varyR fs).1, x.size ≤ 2010 ∧ Sp.lower x.data.toList = x.data.toList := by
 unfold varyR
 split
 ·exact ⟨by simp, fun x hx => by cases hx⟩
 ·refine ⟨?_, fun x hx => h.item varyB x ((varyL_mem _ _).1 hx)⟩
  have h1 := varyS_len ((itemsN fs varyB).map (·.data.toList))
  have h2 := h.len varyB
  unfold varyL
  rw [List.length_map] at h1 ⊢
  omega
def valsS (v : List ByteArray) : List UInt8 := v.flatMap fun x => x.data.toList ++ [10]
def nameS (fs : List S37) (n : ByteArray) : List UInt8 := Sp.lower n.data.toList ++ 58 :: (valsS (getS fs n) ++ [10])
def splitS (ns : List ByteArray) (fs : List S37) : List UInt8 := ns.flatMap (nameS fs)
def mkS (l : List UInt8) : ByteArray := ⟨l.toArray⟩
theorem mkS_list (l : List UInt8) : (mkS l).data.toList = l := by simp [mkS]
theorem mkS_size (l : List UInt8) : (mkS l).size = l.length := mk_size l
theorem mkS_app (a b : List UInt8) : mkS a ++ mkS b = mkS (a ++ b) := H.ba_ext (by rw [ByteArray.data_append, Array.toList_append, mkS_list, mkS_list, mkS_list])
theorem mkS_self (x : ByteArray) : mkS x.data.toList = x := by simp [mkS]
theorem valsS_len (v : List ByteArray) (B : Nat) (h : ∀ x ∈ v, x.size ≤ B) : (valsS v).length ≤ v.length * (B + 1) := by
 induction v with
 | nil => simp [valsS]
 | cons x v ih =>
  have h1 := ih (fun y hy => h y (List.mem_cons_of_mem _ hy))
  have h2 := h x List.mem_cons_self
  have h3 : (valsS (x :: v)).length = x.size + 1 + (valsS v).length := by unfold valsS; rw [List.flatMap_cons, List.length_append, List.length_append, size_data]; rfl
  rw [h3, List.length_cons, Nat.succ_mul]
  omega
theorem Split_l1 (v : List ByteArray) : ∀ (d i k : Nat) (out : List UInt8), v.length - i = d → i ≤ v.length → out.length + (valsS (v.drop i)).length ≤ 100000000000000 → d + 1 ≤ k → key_Split.l1 k v i (mkS out) = some (mkS (out ++ valsS (v.drop i)))
 | d, i, 0, out, hd, hi, ho, hk => by omega
 | d, i, k + 1, out, hd, hi, ho, hk => by
  unfold key_Split.l1
  by_cases hlt : i < v.length
  ·have ed : v.drop i = v[i] :: v.drop (i + 1) := List.drop_eq_getElem_cons hlt
   have hx : v.getD i ByteArray.empty = v[i] := by rw [List.getD_eq_getElem?_getD, List.getElem?_eq_getElem hlt]; rfl
   have e1 : valsS (v.drop i) = v[i].data.toList ++ [10] ++ valsS (v.drop (i + 1)) := by rw [ed]; unfold valsS; rw [List.flatMap_cons]
   rw [e1, List.length_append, List.length_append, size_data, List.length_singleton] at ho
   have e2 : mkS out ++ (v[i] ++ (⟨#[10]⟩ : ByteArray)) = mkS (out ++ (v[i].data.toList ++ [10])) := by
    rw [← mkS_app, ← mkS_app, mkS_self]
    rfl
   rw [if_pos hlt, hx, if_pos (by rw [mkS_size]; omega), e2, Split_l1 v (d - 1) (i + 1) k _ (by omega) (by omega) (by rw [List.length_append, List.length_append, size_data, List.length_singleton]; omega) (by omega), e1]
   simp only [List.append_assoc]
  ·rw [if_neg hlt, List.drop_of_length_le (by omega)]
   simp [valsS]
theorem nameS_len {fs : List S37} (h : FitK fs) (n : ByteArray) : (nameS fs n).length ≤ n.size + 4042112 ∧ (nameS fs n).length = n.size + 2 + (valsS (getS fs n)).length := by
 obtain ⟨h1, h2⟩ := h.get n
 have h3 := valsS_len _ 2010 h2
 have h4 : (getS fs n).length * (2010 + 1) ≤ 2010 * 2011 := Nat.mul_le_mul h1 (Nat.le_refl _)
 have h5 : (nameS fs n).length = n.size + 2 + (valsS (getS fs n)).length := by
  unfold nameS
  rw [List.length_append, List.length_cons, List.length_append, Sp.lower_length, size_data, List.length_singleton]
  omega
 omega
theorem splitS_len {fs : List S37} (h : FitK fs) : ∀ (ns : List ByteArray), (∀ x ∈ ns, x.size ≤ 1048576) → (splitS ns fs).length ≤ ns.length * 5090688
 | [], _ => by simp [splitS]
 | n :: ns, hn => by
  have h1 := splitS_len h ns (fun y hy => hn y (List.mem_cons_of_mem _ hy))
  have h2 := hn n List.mem_cons_self
  have h3 := (nameS_len h n).1
  have h4 : (splitS (n :: ns) fs).length = (nameS fs n).length + (splitS ns fs).length := by unfold splitS; rw [List.flatMap_cons, List.length_append]
  rw [h4, List.length_cons, Nat.succ_mul]
  omega
theorem Split_l0 {fs : List S37} (h : FitK fs) (ns : List ByteArray) (hns : ∀ x ∈ ns, x.size ≤ 1048576) : ∀ (d i k : Nat) (out : List UInt8), ns.length - i = d → i ≤ ns.length → out.length + (splitS (ns.drop i) fs).length ≤ 90000000000000 → d + 3000 ≤ k → key_Split.l0 k ns fs i (mkS out) = some (mkS (out ++ splitS (ns.drop i) fs))
 | d, i, 0, out, hd, hi, ho, hk => by omega
 | d, i, k + 1, out, hd, hi, ho, hk => by
  have hfn := h.n
  unfold key_Split.l0
  by_cases hlt : i < ns.length
  ·have ed : ns.drop i = ns[i] :: ns.drop (i + 1) := List.drop_eq_getElem_cons hlt
   have hx : ns.getD i ByteArray.empty = ns[i] := by rw [List.getD_eq_getElem?_getD, List.getElem?_eq_getElem hlt]; rfl
   have e1 : splitS (ns.drop i) fs = nameS fs ns[i] ++ splitS (ns.drop (i + 1)) fs := by rw [ed]; unfold splitS; rw [List.flatMap_cons]
   rw [e1, List.length_append] at ho
   have hz := hns ns[i] (List.getElem_mem hlt)
   obtain ⟨hq1, hq2⟩ := nameS_len h ns[i]
   have e2 : mkS out ++ ((⟨(Sp.lower ns[i].data.toList).toArray⟩ : ByteArray) ++ (⟨#[58]⟩ : ByteArray)) = mkS (out ++ (Sp.lower ns[i].data.toList ++ [58])) := by rw [← mkS_app, ← mkS_app]; rfl
   have hlw : (⟨(Sp.lower ns[i].data.toList).toArray⟩ : ByteArray).size = ns[i].size := by rw [mk_size, Sp.lower_length, size_data]
   have hl1 := Split_l1 (getS fs ns[i]) (getS fs ns[i]).length 0 k (out ++ (Sp.lower ns[i].data.toList ++ [58])) (Nat.sub_zero _) (Nat.zero_le _) (by rw [List.drop_zero, List.length_append, List.length_append, Sp.lower_length, size_data, List.length_singleton]; omega) (by have := (h.get ns[i]).1; omega)
   rw [List.drop_zero] at hl1
   rw [if_pos hlt, hx, if_pos (by rw [mkS_size]; omega), lower_f (by omega), Option.bind_some, if_pos (by omega), field_Get_ev fs ns[i] (by omega) (by omega) (fun y hy => by have := (h.x y hy).1; omega) k (by omega), Option.bind_some, e2, hl1, Option.bind_some]
   have hl2 : (out ++ (Sp.lower ns[i].data.toList ++ [58]) ++ valsS (getS fs ns[i])).length ≤ 90000000000000 := by
    rw [List.length_append, List.length_append, List.length_append, Sp.lower_length, size_data, List.length_singleton]
    omega
   have e3 : mkS (out ++ (Sp.lower ns[i].data.toList ++ [58]) ++ valsS (getS fs ns[i])) ++ (⟨#[10]⟩ : ByteArray) = mkS (out ++ nameS fs ns[i]) := by
    rw [show (⟨#[10]⟩ : ByteArray) = mkS [10] from rfl, mkS_app]
    unfold nameS
    simp [List.append_assoc]
   rw [if_pos (by rw [mkS_size]; omega), e3, Split_l0 h ns hns (d - 1) (i + 1) k _ (by omega) (by omega) (by rw [List.length_append]; omega) (by omega), e1, List.append_assoc]
  ·rw [if_neg hlt, List.drop_of_length_le (by omega)]
   simp [splitS]
theorem key_Split_ev {fs : List S37} (h : FitK fs) (ns : List ByteArray) (hn : ns.length ≤ 4042110) (hs : ∀ x ∈ ns, x.size ≤ 1048576) (k : Nat) (hk : 5000000 ≤ k) : key_Split.f k ns fs = some (mkS (splitS ns fs)) := by
 have h1 := splitS_len h ns hs
 have h2 : ns.length * 5090688 ≤ 4042110 * 5090688 := Nat.mul_le_mul hn (Nat.le_refl _)
 have := Split_l0 h ns hs ns.length 0 k [] (Nat.sub_zero _) (Nat.zero_le _) (by rw [List.drop_zero]; simp only [List.length_nil]; omega) (by omega)
 rw [List.drop_zero, List.nil_append] at this
 exact this
end Go.Proofs.YthmallhjbhphgaaGreatDoor.P
namespace Go.Proofs.YthmallhjbhphgaaGreatDoor.P
open Go.RowKit Go.Proofs.YthmallhjbhphgaaGreatDoorW.PrintWords Go.Proofs.YthmallhjbhphgaaGreatDoorW.PrintLast Go.Proofs.YthmallhjbhphgaaGreatDoorW.PrintMore
def privNo : List ByteArray := [(⟨#[112, 114, 105, 118, 97, 116, 101]⟩ : ByteArray), (⟨#[110, 111, 45, 115, 116, 111, 114, 101]⟩ : ByteArray)]
def setcB : ByteArray := ⟨#[83, 101, 116, 45, 67, 111, 111, 107, 105, 101]⟩
def baseS (h : List S37) : Bool := (varyR h).2 && (!directsS h privNo && !decide (((getS h setcB).length : Int) > 0))
def fitsS (a b h : List S37) : Bool := baseS h && decide (splitS (varyR h).1 a = splitS (varyR h).1 b)
theorem mkS_inj {a b : List UInt8} (h : (mkS a).toList = (mkS b).toList) : a = b := by rw [toList_data, toList_data, mkS_list, mkS_list] at h; exact h
theorem Fits_j0 (ns : List ByteArray) (hn : ns.length ≤ 4042110) (hs : ∀ x ∈ ns, x.size ≤ 5000) (c : Bool) (m t : ByteArray) (st : Int) (rs : ByteArray) (mi : Int) {a : List S37} (ha : FitK a) (ba : ByteArray) (m' t' : ByteArray) (st' : Int) (rs' : ByteArray) (mi' : Int) {b : List S37} (hb : FitK b) (bb : ByteArray) (k : Nat) (hk : 5000000 ≤ k) :
  key_Fits.j0 (k + 1) ns c m t st rs mi a ba m' t' st' rs' mi' b bb = some (!c && decide (splitS ns a = splitS ns b)) := by
 rw [key_Fits.j0]
 cases c with
 | true => rw [if_pos rfl]; rfl
 | false =>
  have hs := fun x hx => Nat.le_trans (hs x hx) (show 5000 ≤ 1048576 by decide)
  rw [if_neg (by decide), key_Split_ev ha ns hn hs k hk, Option.bind_some, key_Split_ev hb ns hn hs k hk, Option.bind_some]
  by_cases e : splitS ns a = splitS ns b
  ·rw [e]
   simp
  ·rw [decide_eq_false e]
   have : ((mkS (splitS ns a)).toList == (mkS (splitS ns b)).toList) = false := by
    rw [beq_eq_false_iff_ne]
    exact fun h => e (mkS_inj h)
   rw [this]
   rfl
theorem key_Fits_ev (m t : ByteArray) (st : Int) (rs : ByteArray) (mi : Int) {a : List S37} (ha : FitK a) (ba : ByteArray) (m' t' : ByteArray) (st' : Int) (rs' : ByteArray) (mi' : Int) {b : List S37} (hb : FitK b) (bb : ByteArray) (m2 t2 : ByteArray) (st2 : Int) (rs2 : ByteArray) (mi2 : Int) {h : List S37} (hh : FitK h) (k : Nat) (hk : 5000001 ≤ k) :
  key_Fits.f k m t st rs mi a ba m' t' st' rs' mi' b bb m2 t2 st2 rs2 mi2 h = some (fitsS a b h) := by
 obtain ⟨k, rfl⟩ : ∃ j, k = j + 1 := ⟨k - 1, by omega⟩
 obtain ⟨n1, n2⟩ := vary_names hh
 have hhn := hh.n
 unfold key_Fits.f fitsS baseS
 rw [key_Vary_ev hh (k + 1) (by omega), Option.bind_some]
 have hj := fun c => Fits_j0 (varyR h).1 n1 (fun x hx => by have := (n2 x hx).1; omega) c m t st rs mi ha ba m' t' st' rs' mi' hb bb k (by omega)
 cases hv : (varyR h).2 with
 | false =>
  rw [if_neg (by decide), hj true]
  rfl
 | true =>
  rw [if_pos rfl, show key_directs.f (k + 1) h [(⟨#[112, 114, 105, 118, 97, 116, 101]⟩ : ByteArray), (⟨#[110, 111, 45, 115, 116, 111, 114, 101]⟩ : ByteArray)] = _ from key_directs_ev hh privNo (by decide) (k + 1) (by omega), Option.bind_some]
  cases directsS h privNo with
  | true =>
   rw [if_pos rfl, hj true]
   rfl
  | false =>
   rw [if_neg (by decide), show field_Get.f (k + 1) h (⟨#[83, 101, 116, 45, 67, 111, 111, 107, 105, 101]⟩ : ByteArray) = _ from field_Get_ev h setcB (by omega) (by decide) (fun y hy => by have := (hh.x y hy).1; omega) (k + 1) (by omega), Option.bind_some, hj]
   rfl
theorem awake16 : lockagelaw16_awake.f 300 = some true := by kernel_rfl
theorem awake16_k (k : Nat) (hk : 300 ≤ k) : lockagelaw16_awake.f k = some true := at_rounds lockagelaw16_awake.mono hk awake16
end Go.Proofs.YthmallhjbhphgaaGreatDoor.P
namespace Go.Proofs.YthmallhjbhphgaaGreatDoor.P
open Go.RowKit Go.Proofs.YthmallhjbhphgaaGreatDoorW.PrintWords Go.Proofs.YthmallhjbhphgaaGreatDoorW.PrintLast Go.Proofs.YthmallhjbhphgaaGreatDoorW.PrintMore
def hostB : ByteArray := ⟨#[72, 111, 115, 116]⟩
def hostL : ByteArray := ⟨#[104, 111, 115, 116]⟩
def hostOf (fs : List S37) : ByteArray := rdOf ByteArray.empty (getS fs hostB ++ [(⟨#[]⟩ : ByteArray)]) 0
def keyOfB (m h p q : ByteArray) : ByteArray := joinB [m, ⟨(Sp.lower h.data.toList).toArray⟩, p ++ q] (⟨#[32]⟩ : ByteArray)
theorem hostOf_size {fs : List S37} (h : FitK fs) : (hostOf fs).size ≤ 2010 := by
 unfold hostOf
 have h2 := (h.get hostB).2
 cases e : getS fs hostB with
 | nil => decide
 | cons v l =>
  show v.size ≤ 2010
  exact h2 v (by rw [e]; exact List.mem_cons_self)
theorem join3_size (a b c d : ByteArray) : (joinB [a, b, c] d).size = a.size + d.size + b.size + d.size + c.size := by
 unfold joinB
 rw [mk_size]
 simp [Lib.join]
 omega
theorem key_Key_ev (m t : ByteArray) (st : Int) (rs : ByteArray) (mi : Int) {fs : List S37} (h : FitK fs) (body : ByteArray) (p q : ByteArray) (k : Nat) (hm : m.size ≤ 1048576) (hp : p.size ≤ 1000000) (hq : q.size ≤ 1000000) (hk : 3000 ≤ k) (hn : target_Normal.f k t = some (p, q, 0)) :
  key_Key.f k m t st rs mi fs body = some (keyOfB m (hostOf fs) p q, 0) := by
 have hfn := h.n
 have hh := hostOf_size h
 unfold key_Key.f
 rw [hn, Option.bind_some]
 dsimp only
 rw [if_pos rfl, show field_Get.f k fs (⟨#[72, 111, 115, 116]⟩ : ByteArray) = _ from field_Get_ev fs hostB (by omega) (by decide) (fun y hy => by have := (h.x y hy).1; omega) k (by omega), Option.bind_some, if_pos (by have := (h.get hostB).1; omega), Option.bind_some, if_pos (by rw [List.length_append, List.length_singleton]; omega),
  show field_Lower.f (rdOf ByteArray.empty (getS fs hostB ++ [(⟨#[]⟩ : ByteArray)]) 0) = _ from lower_f (a := hostOf fs) (by omega), Option.bind_some, if_pos (by omega)]
 unfold strings_Join.f
 have e : (joinB [m, ⟨(Sp.lower (hostOf fs).data.toList).toArray⟩, p ++ q] (⟨#[32]⟩ : ByteArray)).size ≤ 140737488355328 := by
  have hl : (⟨(Sp.lower (hostOf fs).data.toList).toArray⟩ : ByteArray).size = (hostOf fs).size := by rw [mk_size, Sp.lower_length, size_data]
  rw [join3_size, ByteArray.size_append, hl]
  have : (⟨#[32]⟩ : ByteArray).size = 1 := rfl
  omega
 rw [if_pos ⟨by simp, e⟩, Option.bind_some]
 rfl
theorem FitK.filter {a : List S37} (ha : FitK a) (p : S37 → Bool) : FitK (a.filter p) :=
 ⟨Nat.le_trans (List.length_filter_le _ _) ha.n, fun x hx => ha.x x (List.mem_filter.1 hx).1⟩
end Go.Proofs.YthmallhjbhphgaaGreatDoor.P
