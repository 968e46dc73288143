/- Several parts together: Plain facts about the plain functions of header fields: small letters, trimming, names, cutting; lists of bytes alone; What the printed functions of header fields come to: names, values, what a name has; plain Lean, no program; What the reference functions of header fields come to: small letters, what a name has; plain Lean, no program; What lockagelaw06.Made comes to: a right head of at most six fields, names and values from two lists; plain Lean, no program; What lockagelaw06.Made comes to where it makes an answer; plain Lean, no program; Staying open, in plain Lean: what frame.Stays comes to; What the functions of package key come to: plain Lean, no program; A request by numbers: what lockagelaw16.Request comes to; plain Lean, no program; The law KeyFits answers true; plain Lean, no program; The law KeyValues answers true; plain Lean, no program. -/
import Derived.Test.YthmallhjbhphgaaGreatDoorHZA
import Derived.Test.YthmallhjbhphgaaGreatDoorHZB
import Derived.Test.YthmallhjbhphgaaGreatDoorPx1
import Derived.Lib.LazyBuf
import Derived.Test.YthmallhjbhphgaaGreatDoorPx5
import Derived.Test.YthmallhjbhphgaaGreatDoorHZC
import Derived.OpenShut
import Derived.Test.YthmallhjbhphgaaGreatDoorPx2
import Derived.Test.YthmallhjbhphgaaGreatDoorPx4
import Derived.Test.YthmallhjbhphgaaGreatDoorPx0
import Derived.Sort.Walk0
import Derived.Test.YthmallhjbhphgaaGreatDoorPx19
set_option linter.unusedVariables false
set_option linter.unusedSimpArgs false
namespace Go.Proofs.YthmallhjbhphgaaGreatDoor.Sp
theorem lowC_idem (c : UInt8) : lowC (lowC c) = lowC c := by
 unfold lowC
 by_cases h : 65 ≤ c ∧ c ≤ 90
 ·have h1 : (decide (65 ≤ c) && decide (c ≤ 90)) = true := by simp [h]
  have h2 : ¬ (65 ≤ c + 32 ∧ c + 32 ≤ 90) := by
   obtain ⟨a, b⟩ := h
   rw [UInt8.le_iff_toNat_le] at a b
   rw [UInt8.le_iff_toNat_le, UInt8.le_iff_toNat_le, UInt8.toNat_add]
   simp at a b ⊢
   omega
  simp only [h1, if_true]
  rw [if_neg (by simpa using h2)]
 ·have h1 : (decide (65 ≤ c) && decide (c ≤ 90)) = false := by simpa using h
  simp only [h1, Bool.false_eq_true, if_false]
theorem lower_idem (l : List UInt8) : lower (lower l) = lower l := by
 unfold lower
 rw [List.map_map]
 exact List.map_congr_left fun c _ => lowC_idem c
theorem lower_length (l : List UInt8) : (lower l).length = l.length := by unfold lower; rw [List.length_map]

theorem trim_length (l : List UInt8) : (trim l).length ≤ l.length := by
 unfold trim Lib.trimS Lib.trimLeftS Lib.trimRightS
 have h1 := (List.dropWhile_sublist (l := (l.reverse.dropWhile (([32, 9] : List UInt8).contains ·)).reverse) (([32, 9] : List UInt8).contains ·)).length_le
 have h2 := (List.dropWhile_sublist (l := l.reverse) (([32, 9] : List UInt8).contains ·)).length_le
 rw [List.length_reverse] at h1 h2
 exact Nat.le_trans h1 h2
end Go.Proofs.YthmallhjbhphgaaGreatDoor.Sp
namespace Go.Proofs.YthmallhjbhphgaaGreatDoor.P
open Go.RowKit Go.Proofs.YthmallhjbhphgaaGreatDoorW.PrintWords Go.Proofs.YthmallhjbhphgaaGreatDoorW.PrintLast Go.Proofs.YthmallhjbhphgaaGreatDoorW.PrintMore

theorem size_data (s : ByteArray) : s.data.toList.length = s.size := by rw [Array.length_toList]; rfl
theorem lower_f {a : ByteArray} (h : a.size ≤ 9223372036854775806) : field_Lower.f a = some ⟨(Sp.lower a.data.toList).toArray⟩ := by unfold field_Lower.f; rw [if_pos h]
theorem mk_size (l : List UInt8) : (⟨l.toArray⟩ : ByteArray).size = l.length := by show l.toArray.size = _; rw [List.size_toArray]
theorem toList_data (a : ByteArray) : a.toList = a.data.toList := ByteArray.toList_eq a
def getS (l : List S37) (a : ByteArray) : List ByteArray := (l.filter fun x => Sp.lower x.f0.data.toList == Sp.lower a.data.toList).map (·.f1)
theorem getS_length (l : List S37) (a : ByteArray) : (getS l a).length ≤ l.length := by
 unfold getS
 rw [List.length_map]
 exact List.length_filter_le _ _
theorem field_Get_at (l : List S37) (a : ByteArray) (hl : l.length < 4398046511104) (ha : a.size ≤ 9223372036854775806) (hn : ∀ x ∈ l, x.f0.size ≤ 9223372036854775806) :
  ∀ (d i k : Nat) (acc : List ByteArray), l.length - i = d → i ≤ l.length → acc.length ≤ i → d + 1 ≤ k → field_Get.l0 k a acc l (l.length : Int) i = some (acc ++ getS (l.drop i) a)
 | d, i, 0, acc, hd, hi, hacc, hk => by omega
 | d, i, k + 1, acc, hd, hi, hacc, hk => by
  unfold field_Get.l0
  by_cases hlt : i < l.length
  ·rw [if_pos (by omega), if_pos (by omega), if_pos (by omega)]
   have hx : rd_T37 l (i : Int) = l[i] := by simp [rd_T37, hlt]
   have hs := hn l[i] (List.getElem_mem hlt)
   have ew : wrap64 ((i : Int) + 1) = ((i + 1 : Nat) : Int) := by unfold wrap64; omega
   rw [hx, lower_f hs, lower_f ha, ew]
   simp only [Option.bind_some]
   have ed : l.drop i = l[i] :: l.drop (i + 1) := List.drop_eq_getElem_cons hlt
   have eg : getS (l.drop i) a = (if (Sp.lower l[i].f0.data.toList == Sp.lower a.data.toList) = true then [l[i].f1] else []) ++ getS (l.drop (i + 1)) a := by
    rw [ed]
    unfold getS
    rw [List.filter_cons]
    split <;> simp
   rw [eg]
   by_cases c : Sp.lower l[i].f0.data.toList = Sp.lower a.data.toList
   ·rw [if_pos (by rw [toList_data, toList_data]; simpa using c), if_pos (by omega), if_pos (by simpa using c)]
    rw [field_Get_at l a hl ha hn (d - 1) (i + 1) k _ (by omega) (by omega) (by simp; omega) (by omega), List.append_assoc]
   ·rw [if_neg (by rw [toList_data, toList_data]; simpa using c), if_neg (by simpa using c)]
    rw [field_Get_at l a hl ha hn (d - 1) (i + 1) k _ (by omega) (by omega) (by omega) (by omega), List.nil_append]
  ·rw [if_neg (by omega), List.drop_of_length_le (by omega)]
   simp [getS]
theorem field_Get_ev (l : List S37) (a : ByteArray) (hl : l.length < 4398046511104) (ha : a.size ≤ 9223372036854775806) (hn : ∀ x ∈ l, x.f0.size ≤ 9223372036854775806) (k : Nat) (hk : l.length + 1 ≤ k) :
  field_Get.f k l a = some (getS l a) := by
 unfold field_Get.f
 have := field_Get_at l a hl ha hn l.length 0 k [] (by omega) (by omega) (by simp) hk
 simpa using this
end Go.Proofs.YthmallhjbhphgaaGreatDoor.P
namespace Go.Proofs.YthmallhjbhphgaaGreatDoor.P
open Go.RowKit Go.Proofs.YthmallhjbhphgaaGreatDoorW.PrintWords Go.Proofs.YthmallhjbhphgaaGreatDoorW.PrintLast Go.Proofs.YthmallhjbhphgaaGreatDoorW.PrintMore

theorem bt_low {x : ByteArray} {i : Nat} (h : i < x.size) : bt x (i : Int) = ((x.data.toList[i]'(by rw [size_data]; exact h)).toNat : Int) := by
 unfold bt
 rw [dif_pos (by simpa using h)]
 rfl
theorem one_byte (c : UInt8) : (strOfNums [(c.toNat : Int)]) = ⟨#[c]⟩ := by
 have := Lib.Lz.strOfNums_map [c]
 simpa using this
theorem low_num (c : UInt8) (h : 65 ≤ (c.toNat : Int)) (h' : (c.toNat : Int) ≤ 90) : ((c.toNat : Int) + 32) % 256 = ((Sp.lowC c).toNat : Int) := by
 unfold Sp.lowC
 have h1 : (65 : UInt8) ≤ c := by rw [UInt8.le_iff_toNat_le]; simp; omega
 have h2 : c ≤ (90 : UInt8) := by rw [UInt8.le_iff_toNat_le]; simp; omega
 rw [if_pos (by simp [h1, h2]), UInt8.toNat_add]
 simp
theorem low_same (c : UInt8) (h : ¬ (65 ≤ (c.toNat : Int) ∧ (c.toNat : Int) ≤ 90)) : Sp.lowC c = c := by
 unfold Sp.lowC
 rw [if_neg]
 intro e
 simp only [Bool.and_eq_true, decide_eq_true_eq] at e
 obtain ⟨h1, h2⟩ := e
 rw [UInt8.le_iff_toNat_le] at h1 h2
 simp at h1 h2
 omega
theorem Low_at (x : ByteArray) (hx : x.size ≤ 9223372036854775806) :
  ∀ (d i k : Nat) (acc : ByteArray), x.size - i = d → i ≤ x.size → acc.size ≤ i → d + 1 ≤ k → lockageref05_Lower.l0 k x acc i = some ⟨(acc.data.toList ++ Sp.lower (x.data.toList.drop i)).toArray⟩
 | d, i, 0, acc, hd, hi, hacc, hk => by omega
 | d, i, k + 1, acc, hd, hi, hacc, hk => by
  unfold lockageref05_Lower.l0
  by_cases hlt : i < x.size
  ·rw [if_pos (by omega), if_pos (by omega)]
   have hl : i < x.data.toList.length := by rw [size_data]; exact hlt
   have ew : wrap64 ((i : Int) + 1) = ((i + 1 : Nat) : Int) := by unfold wrap64; omega
   have ed : x.data.toList.drop i = x.data.toList[i] :: x.data.toList.drop (i + 1) := List.drop_eq_getElem_cons hl
   have go : ∀ c : UInt8, Sp.lowC (x.data.toList[i]) = c → (if acc.size + (strOfNums [(c.toNat : Int)]).size ≤ 9223372036854775807 then lockageref05_Lower.l0 k x (acc ++ strOfNums [(c.toNat : Int)]) (wrap64 ((i : Int) + 1)) else none) = some ⟨(acc.data.toList ++ Sp.lower (x.data.toList.drop i)).toArray⟩ := by
    intro c hc
    have s1 : (⟨#[c]⟩ : ByteArray).size = 1 := rfl
    rw [one_byte, if_pos (by omega), ew, Low_at x hx (d - 1) (i + 1) k _ (by omega) (by omega) (by rw [ByteArray.size_append]; omega) (by omega), ed]
    have e1 : Sp.lower (x.data.toList[i] :: x.data.toList.drop (i + 1)) = c :: Sp.lower (x.data.toList.drop (i + 1)) := by rw [← hc]; rfl
    have e2 : (acc ++ (⟨#[c]⟩ : ByteArray)).data.toList = acc.data.toList ++ [c] := by rw [ByteArray.data_append]; simp
    rw [e1, e2, List.append_assoc]
    rfl
   rw [bt_low hlt]
   simp only [Option.bind_some]
   by_cases h1 : (x.data.toList[i].toNat : Int) ≥ 65
   ·rw [if_pos h1]
    by_cases h2 : (x.data.toList[i].toNat : Int) ≤ 90
    ·rw [if_pos h2, low_num _ h1 h2]
     exact go _ rfl
    ·rw [if_neg h2]
     exact go _ (low_same _ (by omega))
   ·rw [if_neg h1]
    exact go _ (low_same _ (by omega))
  ·rw [if_neg (by omega), List.drop_of_length_le (by rw [size_data]; omega)]
   have : (⟨(acc.data.toList ++ Sp.lower []).toArray⟩ : ByteArray) = acc := H.ba_ext (by simp [Sp.lower])
   rw [this]
theorem Low_ev (x : ByteArray) (hx : x.size ≤ 9223372036854775806) (k : Nat) (hk : x.size + 1 ≤ k) : lockageref05_Lower.f k x = some ⟨(Sp.lower x.data.toList).toArray⟩ := by
 unfold lockageref05_Lower.f
 have := Low_at x hx x.size 0 k ⟨#[]⟩ (by omega) (by omega) (by decide) (by omega)
 simpa using this
theorem RefGet_at (B : Nat) (hB : B ≤ 9223372036854775806) (l : List S37) (a : ByteArray) (hl : l.length < 4398046511104) (ha : a.size ≤ B) (hn : ∀ x ∈ l, x.f0.size ≤ B) :
  ∀ (d i k : Nat) (acc : List ByteArray), l.length - i = d → i ≤ l.length → acc.length ≤ i → d + B + 2 ≤ k → lockageref05_Get.l0 k l a acc i = some (acc ++ getS (l.drop i) a)
 | d, i, 0, acc, hd, hi, hacc, hk => by omega
 | d, i, k + 1, acc, hd, hi, hacc, hk => by
  unfold lockageref05_Get.l0
  by_cases hlt : i < l.length
  ·rw [if_pos (by omega), if_pos (by omega)]
   have hx : rd_T37 l (i : Int) = l[i] := by simp [rd_T37, hlt]
   have hs := hn l[i] (List.getElem_mem hlt)
   have ew : wrap64 ((i : Int) + 1) = ((i + 1 : Nat) : Int) := by unfold wrap64; omega
   rw [hx, Low_ev _ (by omega) k (by omega), Low_ev a (by omega) k (by omega), ew]
   simp only [Option.bind_some]
   have ed : l.drop i = l[i] :: l.drop (i + 1) := List.drop_eq_getElem_cons hlt
   have eg : getS (l.drop i) a = (if (Sp.lower l[i].f0.data.toList == Sp.lower a.data.toList) = true then [l[i].f1] else []) ++ getS (l.drop (i + 1)) a := by
    rw [ed]
    unfold getS
    rw [List.filter_cons]
    split <;> simp
   rw [eg]
   by_cases c : Sp.lower l[i].f0.data.toList = Sp.lower a.data.toList
   ·rw [if_pos (by rw [toList_data, toList_data]; simpa using c), if_pos (by omega), if_pos (by simpa using c)]
    rw [RefGet_at B hB l a hl ha hn (d - 1) (i + 1) k _ (by omega) (by omega) (by simp; omega) (by omega), List.append_assoc]
   ·rw [if_neg (by rw [toList_data, toList_data]; simpa using c), if_neg (by simpa using c)]
    rw [RefGet_at B hB l a hl ha hn (d - 1) (i + 1) k _ (by omega) (by omega) (by omega) (by omega), List.nil_append]
  ·rw [if_neg (by omega), List.drop_of_length_le (by omega)]
   simp [getS]
theorem RefGet_ev (B : Nat) (hB : B ≤ 9223372036854775806) (l : List S37) (a : ByteArray) (hl : l.length < 4398046511104) (ha : a.size ≤ B) (hn : ∀ x ∈ l, x.f0.size ≤ B) (k : Nat) (hk : l.length + B + 2 ≤ k) :
  lockageref05_Get.f k l a = some (getS l a) := by
 unfold lockageref05_Get.f
 have := RefGet_at B hB l a hl ha hn l.length 0 k [] (by omega) (by omega) (by simp) hk
 simpa using this
end Go.Proofs.YthmallhjbhphgaaGreatDoor.P
namespace Go.Proofs.YthmallhjbhphgaaGreatDoor.P
open Go.RowKit Go.Proofs.YthmallhjbhphgaaGreatDoorW.PrintWords Go.Proofs.YthmallhjbhphgaaGreatDoorW.PrintLast Go.Proofs.YthmallhjbhphgaaGreatDoorW.PrintMore
def mNames : List ByteArray := [(⟨#[72, 111, 115, 116]⟩ : ByteArray), (⟨#[67, 111, 110, 116, 101, 110, 116, 45, 76, 101, 110, 103, 116, 104]⟩ : ByteArray), (⟨#[84, 114, 97, 110, 115, 102, 101, 114, 45, 69, 110, 99, 111, 100, 105, 110, 103]⟩ : ByteArray), (⟨#[67, 111, 110, 110, 101, 99, 116, 105, 111, 110]⟩ : ByteArray), (⟨#[67, 111, 111, 107, 105, 101]⟩ : ByteArray), (⟨#[86, 97, 114, 121]⟩ : ByteArray), (⟨#[65]⟩ : ByteArray), (⟨#[97, 99, 99, 101, 112, 116]⟩ : ByteArray), (⟨#[82, 97, 110, 103, 101]⟩ : ByteArray), (⟨#[67, 97, 99, 104, 101, 45, 67, 111, 110, 116, 114, 111, 108]⟩ : ByteArray), (⟨#[65, 117, 116, 104, 111, 114, 105, 122, 97, 116, 105, 111, 110]⟩ : ByteArray), (⟨#[88, 45, 70, 111, 114, 119, 97, 114, 100, 101, 100, 45, 70, 111, 114]⟩ : ByteArray), (⟨#[75, 101, 101, 112, 45, 65, 108, 105, 118, 101]⟩ : ByteArray)]
def mVals : List ByteArray := [(⟨#[]⟩ : ByteArray), (⟨#[51]⟩ : ByteArray), (⟨#[99, 104, 117, 110, 107, 101, 100]⟩ : ByteArray), (⟨#[99, 108, 111, 115, 101]⟩ : ByteArray), (⟨#[107, 101, 101, 112, 45, 97, 108, 105, 118, 101, 44, 32, 65]⟩ : ByteArray), (⟨#[97, 44, 32, 98]⟩ : ByteArray), (⟨#[110, 111, 45, 115, 116, 111, 114, 101]⟩ : ByteArray), (⟨#[48]⟩ : ByteArray), (⟨#[120]⟩ : ByteArray), (⟨#[65, 99, 99, 101, 112, 116]⟩ : ByteArray), (⟨#[97, 99, 99, 101, 112, 116, 44, 32, 65]⟩ : ByteArray)]
def mMeths : List ByteArray := [(⟨#[71, 69, 84]⟩ : ByteArray), (⟨#[80, 79, 83, 84]⟩ : ByteArray), (⟨#[72, 69, 65, 68]⟩ : ByteArray), (⟨#[80, 85, 84]⟩ : ByteArray), (⟨#[120, 45, 121]⟩ : ByteArray)]
def mTargs : List ByteArray := [(⟨#[47]⟩ : ByteArray), (⟨#[47, 97, 47, 98]⟩ : ByteArray), (⟨#[47, 97, 63, 120, 61, 49]⟩ : ByteArray), (⟨#[42]⟩ : ByteArray), (⟨#[47, 37, 52, 49]⟩ : ByteArray)]
theorem rdOf_mem {l : List ByteArray} {i : Int} (h0 : 0 ≤ i) (h : i < (l.length : Int)) : rdOf ByteArray.empty l i ∈ l := by
 have hl : i.toNat < l.length := by omega
 unfold rdOf
 rw [List.getD_eq_getElem?_getD, List.getElem?_eq_getElem hl]
 exact List.getElem_mem hl
theorem Pick_ok (l : List Int) (hl : l.length ≤ 281474976710656) (hw : ∀ x ∈ l, (Lit.int .u8 x).wf = true) (i n : Nat) (hi : i ≤ 1000) (hn : 0 < n) :
  ∃ r : Int, lockagelaw06_Maker_Pick.f l i n = some (r, ((i + 1 : Nat) : Int)) ∧ 0 ≤ r ∧ r < n := by
 have e1 : wrap64 ((i : Int) + 1) = ((i + 1 : Nat) : Int) := by unfold wrap64; omega
 have e2 : wrap64 (((i + 1 : Nat) : Int) - 1) = (i : Int) := by unfold wrap64; omega
 unfold lockagelaw06_Maker_Pick.f
 rw [e1, e2]
 clear e1 e2
 by_cases h : ((i + 1 : Nat) : Int) > (l.length : Int)
 ·rw [if_pos h]
  exact ⟨0, rfl, by omega, by omega⟩
 ·have hx : rd l (i : Int) = l[i]'(by omega) := by simp [rd, show i < l.length by omega]
  have hb := bounds_u8 (hw (l[i]'(by omega)) (List.getElem_mem _))
  have ex : wrap64 (l[i]'(by omega)) = l[i]'(by omega) := by
   generalize l[i]'(by omega) = v at hb
   unfold wrap64; omega
  rw [if_neg h, if_pos (by omega), if_pos (by omega), if_neg (by omega), hx, ex]
  exact ⟨_, rfl, Int.tmod_nonneg _ hb.1, Int.tmod_lt_of_pos _ (by omega)⟩
def MFs (l : List S37) : Prop := ∀ x ∈ l, x.f0 ∈ mNames ∧ x.f1 ∈ mVals
theorem Head_l0 (l : List Int) (hl : l.length ≤ 281474976710656) (hw : ∀ x ∈ l, (Lit.int .u8 x).wf = true) (m t s : ByteArray) (st mi : Int) (d : Nat) :
  ∀ (i k : Nat) (acc : List S37), d ≤ 6 → acc.length + d ≤ 6 → i + 2 * d ≤ 900 → d + 1 ≤ k → MFs acc →
   ∃ fs j, lockagelaw06_Maker_Head.l0 k (d : Int) l (i : Int) m t st s mi acc = some (m, t, st, s, mi, fs, j) ∧ fs.length ≤ 6 ∧ MFs fs := by
 induction d with
 | zero =>
  intro i k acc hd ha hi hk hm
  obtain ⟨k, rfl⟩ : ∃ j, k = j + 1 := ⟨k - 1, by omega⟩
  unfold lockagelaw06_Maker_Head.l0
  rw [if_neg (by omega)]
  exact ⟨acc, _, rfl, by omega, hm⟩
 | succ d ih =>
  intro i k acc hd ha hi hk hm
  obtain ⟨k, rfl⟩ : ∃ j, k = j + 1 := ⟨k - 1, by omega⟩
  obtain ⟨r1, p1, a1, b1⟩ := Pick_ok l hl hw i 13 (by omega) (by omega)
  obtain ⟨r2, p2, a2, b2⟩ := Pick_ok l hl hw (i + 1) 11 (by omega) (by omega)
  have hm2 : MFs (acc ++ [(⟨rdOf ByteArray.empty mNames r1, rdOf ByteArray.empty mVals r2⟩ : S37)]) := by
   intro x hx
   rcases List.mem_append.1 hx with hx | hx
   ·exact hm x hx
   ·obtain rfl := List.mem_singleton.1 hx
    exact ⟨rdOf_mem a1 b1, rdOf_mem a2 b2⟩
  obtain ⟨fs, j, h1, h2, h3⟩ := ih (i + 2) k _ (by omega) (by simp; omega) (by omega) (by omega) hm2
  refine ⟨fs, j, ?_, h2, h3⟩
  have q1 : lockagelaw06_Maker_Pick.f l (i : Int) 13 = some (r1, ((i + 1 : Nat) : Int)) := p1
  have q2 : lockagelaw06_Maker_Pick.f l ((i + 1 : Nat) : Int) 11 = some (r2, ((i + 2 : Nat) : Int)) := p2
  have e1 : wrap64 (((d + 1 : Nat) : Int) - 1) = (d : Int) := by unfold wrap64; omega
  have c1 : ((d + 1 : Nat) : Int) > 0 := by omega
  have c2 : acc.length < 4398046511104 := by omega
  clear p1 p2 hm2 ih hm hi hk ha hd
  simp only [mNames, mVals] at h1
  unfold lockagelaw06_Maker_Head.l0
  simp only [Option.bind_some, List.length_cons, List.length_nil, Nat.zero_add, Nat.reduceAdd, if_pos c1, q1, q2, if_pos a1, if_pos b1, if_pos a2, if_pos b2, if_pos c2, e1]
  exact h1
theorem Head_j0 (l : List Int) (hl : l.length ≤ 281474976710656) (hw : ∀ x ∈ l, (Lit.int .u8 x).wf = true) (m t s : ByteArray) (st mi : Int) (i k : Nat) (hi : i ≤ 100) (hk : 20 ≤ k) :
  ∃ fs j, lockagelaw06_Maker_Head.j0 k l (i : Int) m t st s mi = some (m, t, st, s, mi, fs, j) ∧ fs.length ≤ 6 ∧ MFs fs := by
 obtain ⟨k, rfl⟩ : ∃ j, k = j + 1 := ⟨k - 1, by omega⟩
 obtain ⟨r, p, a, b⟩ := Pick_ok l hl hw i 7 (by omega) (by omega)
 obtain ⟨d, rfl⟩ := Int.eq_ofNat_of_zero_le a
 obtain ⟨fs, j, h1, h2, h3⟩ := Head_l0 l hl hw m t s st mi d (i + 1) k [] (by omega) (by simp; omega) (by omega) (by omega) (fun x hx => by cases hx)
 refine ⟨fs, j, ?_, h2, h3⟩
 unfold lockagelaw06_Maker_Head.j0
 dsimp only
 have q : lockagelaw06_Maker_Pick.f l (i : Int) 7 = some ((d : Int), ((i + 1 : Nat) : Int)) := p
 rw [q]
 simp only [Option.bind_some]
 exact h1
theorem names_good : ∀ m ∈ mNames, Sp.nameB m.data.toList = true ∧ m.size ≤ 100 := by
 have h : (mNames.all fun m => Sp.nameB m.data.toList && decide (m.size ≤ 100)) = true := by kernel_rfl
 intro m hm
 have := List.all_eq_true.1 h m hm
 simpa using this
theorem vals_good : ∀ m ∈ mVals, Sp.valB m.data.toList = true ∧ m.size ≤ 100 := by
 have h : (mVals.all fun m => Sp.valB m.data.toList && decide (m.size ≤ 100)) = true := by kernel_rfl
 intro m hm
 have := List.all_eq_true.1 h m hm
 simpa using this
end Go.Proofs.YthmallhjbhphgaaGreatDoor.P
namespace Go.Proofs.YthmallhjbhphgaaGreatDoor.P
open Go.RowKit Go.Proofs.YthmallhjbhphgaaGreatDoorW.PrintWords Go.Proofs.YthmallhjbhphgaaGreatDoorW.PrintLast Go.Proofs.YthmallhjbhphgaaGreatDoorW.PrintMore
def mStats : List Int := [200, 404, 304, 204, 100, 599, 503]
def mReas : List ByteArray := [(⟨#[79, 75]⟩ : ByteArray), (⟨#[]⟩ : ByteArray), (⟨#[78, 111, 116, 32, 70, 111, 117, 110, 100]⟩ : ByteArray), (⟨#[97, 9, 98]⟩ : ByteArray)]
theorem rd_mem {l : List Int} {i : Int} (h0 : 0 ≤ i) (h : i < (l.length : Int)) : rd l i ∈ l := by
 have hl : i.toNat < l.length := by omega
 unfold rd
 rw [List.getD_eq_getElem?_getD, List.getElem?_eq_getElem hl]
 exact List.getElem_mem hl
theorem Made_true (l : List Int) (hl : l.length ≤ 281474976710656) (hw : ∀ x ∈ l, (Lit.int .u8 x).wf = true) :
  ∃ st s mi fs, (∀ k, 20 ≤ k → lockagelaw06_Made.f k l true = some (⟨#[]⟩, ⟨#[]⟩, st, s, mi, fs)) ∧ st ∈ mStats ∧ s ∈ mReas ∧ (mi = 0 ∨ mi = 1) ∧ fs.length ≤ 6 ∧ MFs fs := by
 obtain ⟨r1, p1, a1, b1⟩ := Pick_ok l hl hw 0 2 (by omega) (by omega)
 obtain ⟨r2, p2, a2, b2⟩ := Pick_ok l hl hw 1 7 (by omega) (by omega)
 obtain ⟨r3, p3, a3, b3⟩ := Pick_ok l hl hw 2 4 (by omega) (by omega)
 obtain ⟨fs, j, h1, h2, h3⟩ := Head_j0 l hl hw ⟨#[]⟩ ⟨#[]⟩ (rdOf ByteArray.empty mReas r3) (rd mStats r2) (wrap64 (1 - r1)) 3 20 (by omega) (by omega)
 refine ⟨rd mStats r2, rdOf ByteArray.empty mReas r3, wrap64 (1 - r1), fs, fun k hk => at_rounds (lockagelaw06_Made.mono l true) hk ?_, rd_mem a2 b2, rdOf_mem a3 b3, ?_, h2, h3⟩
 ·unfold lockagelaw06_Made.f lockagelaw06_Maker_Head.f
  have q1 : lockagelaw06_Maker_Pick.f l 0 2 = some (r1, 1) := p1
  have q2 : lockagelaw06_Maker_Pick.f l 1 7 = some (r2, 2) := p2
  have q3 : lockagelaw06_Maker_Pick.f l 2 4 = some (r3, 3) := p3
  have q4 : lockagelaw06_Maker_Head.j0 20 l 3 ⟨#[]⟩ ⟨#[]⟩ (rd mStats r2) (rdOf ByteArray.empty mReas r3) (wrap64 (1 - r1)) = some (⟨#[]⟩, ⟨#[]⟩, rd mStats r2, rdOf ByteArray.empty mReas r3, wrap64 (1 - r1), fs, j) := h1
  rw [q1]
  simp only [Option.bind_some]
  rw [if_pos trivial, q2]
  simp only [Option.bind_some, List.length_cons, List.length_nil, Nat.zero_add, Nat.reduceAdd]
  rw [if_pos a2, if_pos b2, q3]
  simp only [Option.bind_some]
  rw [if_pos a3, if_pos b3]
  simp only [mStats, mReas] at q4
  rw [q4]
  rfl
 ·have : r1 = 0 ∨ r1 = 1 := by omega
  rcases this with rfl | rfl
  ·exact .inr (by unfold wrap64; omega)
  ·exact .inl (by unfold wrap64; omega)
end Go.Proofs.YthmallhjbhphgaaGreatDoor.P
namespace Go.Proofs.YthmallhjbhphgaaGreatDoor.P
open Go.RowKit Go.Proofs.YthmallhjbhphgaaGreatDoorW.PrintWords Go.Proofs.YthmallhjbhphgaaGreatDoorW.PrintLast Go.Proofs.YthmallhjbhphgaaGreatDoorW.PrintMore
theorem wrap_up (n : Nat) (h : n < 8796093022208) : wrap64 ((n : Int) + 1) = ((n + 1 : Nat) : Int) := by unfold wrap64; omega
end Go.Proofs.YthmallhjbhphgaaGreatDoor.P
namespace Go.Proofs.YthmallhjbhphgaaGreatDoor.P
open Go.RowKit Go.Proofs.YthmallhjbhphgaaGreatDoorW.PrintWords Go.Proofs.YthmallhjbhphgaaGreatDoorW.PrintLast Go.Proofs.YthmallhjbhphgaaGreatDoorW.PrintMore
structure FitK (fs : List S37) : Prop where
 n : fs.length ≤ 2010
 x : ∀ x ∈ fs, x.f0.size ≤ 2010 ∧ x.f1.size ≤ 2010
theorem getK_mem {fs : List S37} {a v : ByteArray} (h : v ∈ getS fs a) : ∃ x ∈ fs, v = x.f1 := by
 unfold getS at h
 obtain ⟨x, hx, rfl⟩ := List.mem_map.1 h
 exact ⟨x, (List.mem_filter.1 hx).1, rfl⟩
theorem FitK.get {fs : List S37} (h : FitK fs) (a : ByteArray) : (getS fs a).length ≤ 2010 ∧ ∀ v ∈ getS fs a, v.size ≤ 2010 := by
 refine ⟨Nat.le_trans (getS_length _ _) h.n, fun v hv => ?_⟩
 obtain ⟨x, hx, rfl⟩ := getK_mem hv
 exact (h.x x hx).2
theorem partsK_le (c : UInt8) : ∀ (l p : List UInt8), p ∈ Sp.parts c l → p.length ≤ l.length
 | [], p, h => by
  simp [Sp.parts] at h
  simp [h]
 | b :: l, p, h => by
  rw [Sp.parts] at h
  split at h
  ·rcases List.mem_cons.1 h with rfl | h
   ·simp
   ·have := partsK_le c l p h; simp; omega
  ·split at h
   ·rename_i e
    have : p = [b] := by simpa using h
    simp [this]
   ·rename_i q r e
    rcases List.mem_cons.1 h with rfl | h
    ·have := partsK_le c l q (by rw [e]; exact List.mem_cons_self)
     simp; omega
    ·have := partsK_le c l p (by rw [e]; exact List.mem_cons_of_mem _ h)
     simp; omega
theorem itemK_size (v x : ByteArray) (h : x ∈ itemsB v) : x.size ≤ v.size := by
 unfold itemsB Sp.items at h
 obtain ⟨l, hl, rfl⟩ := List.mem_map.1 h
 have h2 := (List.mem_filter.1 hl).1
 obtain ⟨p, hp, rfl⟩ := List.mem_map.1 h2
 have h3 := partsK_le 44 _ p hp
 have h4 := Sp.trim_length p
 have h5 := Sp.lower_length (Sp.trim p)
 show (⟨_⟩ : ByteArray).size ≤ _
 rw [mk_size]
 rw [size_data] at h3
 omega
theorem itemK_low (v x : ByteArray) (h : x ∈ itemsB v) : Sp.lower x.data.toList = x.data.toList := by
 unfold itemsB Sp.items at h
 obtain ⟨l, hl, rfl⟩ := List.mem_map.1 h
 have h2 := (List.mem_filter.1 hl).1
 obtain ⟨p, hp, rfl⟩ := List.mem_map.1 h2
 show Sp.lower (Sp.lower (Sp.trim p)) = Sp.lower (Sp.trim p)
 exact Sp.lower_idem _
theorem flatK_len (B : Nat) : ∀ g : List ByteArray, (∀ v ∈ g, v.size ≤ B) → (g.flatMap itemsB).length ≤ g.length * (B + 1)
 | [], _ => by simp
 | v :: g, h => by
  have h1 := flatK_len B g (fun x hx => h x (List.mem_cons_of_mem _ hx))
  have h2 := items_le v
  have h3 := h v List.mem_cons_self
  rw [List.flatMap_cons, List.length_append, List.length_cons, Nat.succ_mul]
  omega
def itemsN (fs : List S37) (a : ByteArray) : List ByteArray := (getS fs a).flatMap itemsB
theorem FitK.len {fs : List S37} (h : FitK fs) (a : ByteArray) : (itemsN fs a).length ≤ 4042110 := by
 obtain ⟨h1, h2⟩ := h.get a
 have h3 := flatK_len 2010 _ h2
 have h4 : (getS fs a).length * (2010 + 1) ≤ 2010 * 2011 := Nat.mul_le_mul h1 (Nat.le_refl _)
 unfold itemsN
 omega
theorem FitK.item {fs : List S37} (h : FitK fs) (a x : ByteArray) (hx : x ∈ itemsN fs a) : x.size ≤ 2010 ∧ Sp.lower x.data.toList = x.data.toList := by
 unfold itemsN at hx
 obtain ⟨v, hv, hx⟩ := List.mem_flatMap.1 hx
 have := (h.get a).2 v hv
 have := itemK_size v x hx
 exact ⟨by omega, itemK_low v x hx⟩
theorem itemsK_f {v : ByteArray} (h : v.size ≤ 4294967280) : field_Items.f v = some (itemsB v) := by unfold field_Items.f; rw [if_pos h]
theorem key_items_l0 (g : List ByteArray) (hg : ∀ v ∈ g, v.size ≤ 4294967280) (hl : g.length < 4398046511104) :
  ∀ (d i k : Nat) (acc : List ByteArray), g.length - i = d → i ≤ g.length → acc.length + ((g.drop i).flatMap itemsB).length < 8796093022208 → d + 1 ≤ k → key_items.l0 k acc g (g.length : Int) i = some (acc ++ (g.drop i).flatMap itemsB)
 | d, i, 0, acc, hd, hi, ha, hk => by omega
 | d, i, k + 1, acc, hd, hi, ha, hk => by
  unfold key_items.l0
  by_cases hlt : i < g.length
  ·have ed : g.drop i = g[i] :: g.drop (i + 1) := List.drop_eq_getElem_cons hlt
   rw [ed, List.flatMap_cons, List.length_append] at ha
   have hx : rdOf ByteArray.empty g (i : Int) = g[i] := by simp [rdOf, hlt]
   rw [if_pos (by omega), if_pos (by omega), if_pos (by omega), hx, itemsK_f (hg _ (List.getElem_mem hlt))]
   simp only [Option.bind_some]
   rw [if_pos (by omega), wrap_up i (by omega), key_items_l0 g hg hl (d - 1) (i + 1) k _ (by omega) (by omega) (by rw [List.length_append]; omega) (by omega), ed, List.flatMap_cons, List.append_assoc]
  ·rw [if_neg (by omega), List.drop_of_length_le (by omega)]
   simp
theorem key_items_ev {fs : List S37} (h : FitK fs) (a : ByteArray) (ha : a.size ≤ 5000) (k : Nat) (hk : 3000 ≤ k) : key_items.f k fs a = some (itemsN fs a) := by
 have hn := h.n
 obtain ⟨h1, h2⟩ := h.get a
 have h3 := h.len a
 unfold itemsN at h3
 unfold key_items.f
 rw [field_Get_ev fs a (by omega) (by omega) (fun x hx => by have := (h.x x hx).1; omega) k (by omega)]
 simp only [Option.bind_some]
 have := key_items_l0 (getS fs a) (fun v hv => by have := h2 v hv; omega) (by omega) (getS fs a).length 0 k [] (Nat.sub_zero _) (Nat.zero_le _) (by rw [List.drop_zero]; simp only [List.length_nil]; omega) (by omega)
 rw [List.drop_zero, List.nil_append] at this
 exact this
def varyB : ByteArray := ⟨#[86, 97, 114, 121]⟩
def varyR (fs : List S37) : List ByteArray × Bool := if ([42] : List UInt8) ∈ (itemsN fs varyB).map (·.data.toList) then ([], false) else (varyL (itemsN fs varyB), true)
theorem key_Vary_ev {fs : List S37} (h : FitK fs) (k : Nat) (hk : 3000 ≤ k) : key_Vary.f k fs = some (varyR fs) := by
 have h1 := h.len varyB
 unfold key_Vary.f varyR
 rw [show key_items.f k fs (⟨#[86, 97, 114, 121]⟩ : ByteArray) = _ from key_items_ev h varyB (by decide) k hk, Option.bind_some, if_pos ⟨by omega, fun x hx => by have := (h.item varyB x hx).1; omega⟩]
 split <;> rfl
theorem addS_len (s : List UInt8) : ∀ l : List (List UInt8), (addS s l).length ≤ l.length + 1
 | [] => by simp [addS]
 | x :: l => by
  have := addS_len s l
  unfold addS
  split
  ·simp
  ·split
   ·simp
   ·simp; omega
theorem varyS_len (l : List (List UInt8)) : (varyS l).length ≤ l.length := by
 have key : ∀ (l acc : List (List UInt8)), (l.foldl (fun acc s => addS s acc) acc).length ≤ acc.length + l.length := by
  intro l
  induction l with
  | nil => intro acc; simp
  | cons s l ih =>
   intro acc
   have h1 := ih (addS s acc)
   have h2 := addS_len s acc
   rw [List.foldl_cons, List.length_cons]
   omega
 have := key l []
 simpa [varyS] using this
theorem varyL_mem (its : List ByteArray) (y : ByteArray) : y ∈ varyL its ↔ y ∈ its := by
 unfold varyL
 rw [List.mem_map]
 constructor
 ·rintro ⟨l, hl, rfl⟩
  obtain ⟨x, hx, rfl⟩ := List.mem_map.1 ((varyS_mem _ _).1 hl)
  simpa using hx
 ·intro h
  exact ⟨y.data.toList, (varyS_mem _ _).2 (List.mem_map.2 ⟨y, h, rfl⟩), by simp⟩
theorem vary_names {fs : List S37} (h : FitK fs) : (varyR fs).1.length ≤ 4042110 ∧ ∀ x ∈ (varyR fs).1, x.size ≤ 2010 ∧ Sp.lower x.data.toList = x.data.toList := by
 unfold varyR
 split
 ·exact ⟨by simp, fun x hx => by cases hx⟩
 ·refine ⟨?_, fun x hx => h.item varyB x ((varyL_mem _ _).1 hx)⟩
  have h1 := varyS_len ((itemsN fs varyB).map (·.data.toList))
  have h2 := h.len varyB
  unfold varyL
  rw [List.length_map] at h1 ⊢
  omega
def valsS (v : List ByteArray) : List UInt8 := v.flatMap fun x => x.data.toList ++ [10]
def nameS (fs : List S37) (n : ByteArray) : List UInt8 := Sp.lower n.data.toList ++ 58 :: (valsS (getS fs n) ++ [10])
def splitS (ns : List ByteArray) (fs : List S37) : List UInt8 := ns.flatMap (nameS fs)
def mkS (l : List UInt8) : ByteArray := ⟨l.toArray⟩
theorem mkS_list (l : List UInt8) : (mkS l).data.toList = l := by simp [mkS]
theorem mkS_size (l : List UInt8) : (mkS l).size = l.length := mk_size l
theorem mkS_app (a b : List UInt8) : mkS a ++ mkS b = mkS (a ++ b) := H.ba_ext (by rw [ByteArray.data_append, Array.toList_append, mkS_list, mkS_list, mkS_list])
theorem mkS_self (x : ByteArray) : mkS x.data.toList = x := by simp [mkS]
theorem valsS_len (v : List ByteArray) (B : Nat) (h : ∀ x ∈ v, x.size ≤ B) : (valsS v).length ≤ v.length * (B + 1) := by
 induction v with
 | nil => simp [valsS]
 | cons x v ih =>
  have h1 := ih (fun y hy => h y (List.mem_cons_of_mem _ hy))
  have h2 := h x List.mem_cons_self
  have h3 : (valsS (x :: v)).length = x.size + 1 + (valsS v).length := by unfold valsS; rw [List.flatMap_cons, List.length_append, List.length_append, size_data]; rfl
  rw [h3, List.length_cons, Nat.succ_mul]
  omega
theorem Split_l1 (v : List ByteArray) : ∀ (d i k : Nat) (out : List UInt8), v.length - i = d → i ≤ v.length → out.length + (valsS (v.drop i)).length ≤ 100000000000000 → d + 1 ≤ k → key_Split.l1 k v i (mkS out) = some (mkS (out ++ valsS (v.drop i)))
 | d, i, 0, out, hd, hi, ho, hk => by omega
 | d, i, k + 1, out, hd, hi, ho, hk => by
  unfold key_Split.l1
  by_cases hlt : i < v.length
  ·have ed : v.drop i = v[i] :: v.drop (i + 1) := List.drop_eq_getElem_cons hlt
   have hx : v.getD i ByteArray.empty = v[i] := by rw [List.getD_eq_getElem?_getD, List.getElem?_eq_getElem hlt]; rfl
   have e1 : valsS (v.drop i) = v[i].data.toList ++ [10] ++ valsS (v.drop (i + 1)) := by rw [ed]; unfold valsS; rw [List.flatMap_cons]
   rw [e1, List.length_append, List.length_append, size_data, List.length_singleton] at ho
   have e2 : mkS out ++ (v[i] ++ (⟨#[10]⟩ : ByteArray)) = mkS (out ++ (v[i].data.toList ++ [10])) := by
    rw [← mkS_app, ← mkS_app, mkS_self]
    rfl
   rw [if_pos hlt, hx, if_pos (by rw [mkS_size]; omega), e2, Split_l1 v (d - 1) (i + 1) k _ (by omega) (by omega) (by rw [List.length_append, List.length_append, size_data, List.length_singleton]; omega) (by omega), e1]
   simp only [List.append_assoc]
  ·rw [if_neg hlt, List.drop_of_length_le (by omega)]
   simp [valsS]
theorem nameS_len {fs : List S37} (h : FitK fs) (n : ByteArray) : (nameS fs n).length ≤ n.size + 4042112 ∧ (nameS fs n).length = n.size + 2 + (valsS (getS fs n)).length := by
 obtain ⟨h1, h2⟩ := h.get n
 have h3 := valsS_len _ 2010 h2
 have h4 : (getS fs n).length * (2010 + 1) ≤ 2010 * 2011 := Nat.mul_le_mul h1 (Nat.le_refl _)
 have h5 : (nameS fs n).length = n.size + 2 + (valsS (getS fs n)).length := by
  unfold nameS
  rw [List.length_append, List.length_cons, List.length_append, Sp.lower_length, size_data, List.length_singleton]
  omega
 omega
theorem splitS_len {fs : List S37} (h : FitK fs) : ∀ (ns : List ByteArray), (∀ x ∈ ns, x.size ≤ 5000) → (splitS ns fs).length ≤ ns.length * 4047112
 | [], _ => by simp [splitS]
 | n :: ns, hn => by
  have h1 := splitS_len h ns (fun y hy => hn y (List.mem_cons_of_mem _ hy))
  have h2 := hn n List.mem_cons_self
  have h3 := (nameS_len h n).1
  have h4 : (splitS (n :: ns) fs).length = (nameS fs n).length + (splitS ns fs).length := by unfold splitS; rw [List.flatMap_cons, List.length_append]
  rw [h4, List.length_cons, Nat.succ_mul]
  omega
theorem Split_l0 {fs : List S37} (h : FitK fs) (ns : List ByteArray) (hns : ∀ x ∈ ns, x.size ≤ 5000) : ∀ (d i k : Nat) (out : List UInt8), ns.length - i = d → i ≤ ns.length → out.length + (splitS (ns.drop i) fs).length ≤ 90000000000000 → d + 3000 ≤ k → key_Split.l0 k ns fs i (mkS out) = some (mkS (out ++ splitS (ns.drop i) fs))
 | d, i, 0, out, hd, hi, ho, hk => by omega
 | d, i, k + 1, out, hd, hi, ho, hk => by
  have hfn := h.n
  unfold key_Split.l0
  by_cases hlt : i < ns.length
  ·have ed : ns.drop i = ns[i] :: ns.drop (i + 1) := List.drop_eq_getElem_cons hlt
   have hx : ns.getD i ByteArray.empty = ns[i] := by rw [List.getD_eq_getElem?_getD, List.getElem?_eq_getElem hlt]; rfl
   have e1 : splitS (ns.drop i) fs = nameS fs ns[i] ++ splitS (ns.drop (i + 1)) fs := by rw [ed]; unfold splitS; rw [List.flatMap_cons]
   rw [e1, List.length_append] at ho
   have hz := hns ns[i] (List.getElem_mem hlt)
   obtain ⟨hq1, hq2⟩ := nameS_len h ns[i]
   have e2 : mkS out ++ ((⟨(Sp.lower ns[i].data.toList).toArray⟩ : ByteArray) ++ (⟨#[58]⟩ : ByteArray)) = mkS (out ++ (Sp.lower ns[i].data.toList ++ [58])) := by rw [← mkS_app, ← mkS_app]; rfl
   have hlw : (⟨(Sp.lower ns[i].data.toList).toArray⟩ : ByteArray).size = ns[i].size := by rw [mk_size, Sp.lower_length, size_data]
   have hl1 := Split_l1 (getS fs ns[i]) (getS fs ns[i]).length 0 k (out ++ (Sp.lower ns[i].data.toList ++ [58])) (Nat.sub_zero _) (Nat.zero_le _) (by rw [List.drop_zero, List.length_append, List.length_append, Sp.lower_length, size_data, List.length_singleton]; omega) (by have := (h.get ns[i]).1; omega)
   rw [List.drop_zero] at hl1
   rw [if_pos hlt, hx, if_pos (by rw [mkS_size]; omega), lower_f (by omega), Option.bind_some, if_pos (by omega), field_Get_ev fs ns[i] (by omega) (by omega) (fun y hy => by have := (h.x y hy).1; omega) k (by omega), Option.bind_some, e2, hl1, Option.bind_some]
   have hl2 : (out ++ (Sp.lower ns[i].data.toList ++ [58]) ++ valsS (getS fs ns[i])).length ≤ 90000000000000 := by
    rw [List.length_append, List.length_append, List.length_append, Sp.lower_length, size_data, List.length_singleton]
    omega
   have e3 : mkS (out ++ (Sp.lower ns[i].data.toList ++ [58]) ++ valsS (getS fs ns[i])) ++ (⟨#[10]⟩ : ByteArray) = mkS (out ++ nameS fs ns[i]) := by
    rw [show (⟨#[10]⟩ : ByteArray) = mkS [10] from rfl, mkS_app]
    unfold nameS
    simp [List.append_assoc]
   rw [if_pos (by rw [mkS_size]; omega), e3, Split_l0 h ns hns (d - 1) (i + 1) k _ (by omega) (by omega) (by rw [List.length_append]; omega) (by omega), e1, List.append_assoc]
  ·rw [if_neg hlt, List.drop_of_length_le (by omega)]
   simp [splitS]
theorem key_Split_ev {fs : List S37} (h : FitK fs) (ns : List ByteArray) (hn : ns.length ≤ 4042110) (hs : ∀ x ∈ ns, x.size ≤ 5000) (k : Nat) (hk : 5000000 ≤ k) : key_Split.f k ns fs = some (mkS (splitS ns fs)) := by
 have h1 := splitS_len h ns hs
 have h2 : ns.length * 4047112 ≤ 4042110 * 4047112 := Nat.mul_le_mul hn (Nat.le_refl _)
 have := Split_l0 h ns hs ns.length 0 k [] (Nat.sub_zero _) (Nat.zero_le _) (by rw [List.drop_zero]; simp only [List.length_nil]; omega) (by omega)
 rw [List.drop_zero, List.nil_append] at this
 exact this
end Go.Proofs.YthmallhjbhphgaaGreatDoor.P
namespace Go.Proofs.YthmallhjbhphgaaGreatDoor.P
open Go.RowKit Go.Proofs.YthmallhjbhphgaaGreatDoorW.PrintWords Go.Proofs.YthmallhjbhphgaaGreatDoorW.PrintLast Go.Proofs.YthmallhjbhphgaaGreatDoorW.PrintMore
theorem Head_l0n (l : List Int) (hl : l.length ≤ 281474976710656) (hw : ∀ x ∈ l, (Lit.int .u8 x).wf = true) (m t s : ByteArray) (st mi : Int) (d : Nat) :
  ∀ (i k : Nat) (acc : List S37), d ≤ 6 → acc.length + d ≤ 6 → i + 2 * d ≤ 900 → d + 1 ≤ k → MFs acc →
   ∃ (fs : List S37) (n : Nat), lockagelaw06_Maker_Head.l0 k (d : Int) l (i : Int) m t st s mi acc = some (m, t, st, s, mi, fs, (n : Int)) ∧ fs.length ≤ 6 ∧ MFs fs ∧ n ≤ i + 2 * d := by
 induction d with
 | zero =>
  intro i k acc hd ha hi hk hm
  obtain ⟨k, rfl⟩ : ∃ j, k = j + 1 := ⟨k - 1, by omega⟩
  unfold lockagelaw06_Maker_Head.l0
  rw [if_neg (by omega)]
  exact ⟨acc, i, rfl, by omega, hm, by omega⟩
 | succ d ih =>
  intro i k acc hd ha hi hk hm
  obtain ⟨k, rfl⟩ : ∃ j, k = j + 1 := ⟨k - 1, by omega⟩
  obtain ⟨r1, p1, a1, b1⟩ := Pick_ok l hl hw i 13 (by omega) (by omega)
  obtain ⟨r2, p2, a2, b2⟩ := Pick_ok l hl hw (i + 1) 11 (by omega) (by omega)
  have hm2 : MFs (acc ++ [(⟨rdOf ByteArray.empty mNames r1, rdOf ByteArray.empty mVals r2⟩ : S37)]) := by
   intro x hx
   rcases List.mem_append.1 hx with hx | hx
   ·exact hm x hx
   ·obtain rfl := List.mem_singleton.1 hx
    exact ⟨rdOf_mem a1 b1, rdOf_mem a2 b2⟩
  obtain ⟨fs, j, h1, h2, h3, h4⟩ := ih (i + 2) k _ (by omega) (by simp; omega) (by omega) (by omega) hm2
  refine ⟨fs, j, ?_, h2, h3, by omega⟩
  have q1 : lockagelaw06_Maker_Pick.f l (i : Int) 13 = some (r1, ((i + 1 : Nat) : Int)) := p1
  have q2 : lockagelaw06_Maker_Pick.f l ((i + 1 : Nat) : Int) 11 = some (r2, ((i + 2 : Nat) : Int)) := p2
  have e1 : wrap64 (((d + 1 : Nat) : Int) - 1) = (d : Int) := by unfold wrap64; omega
  have c1 : ((d + 1 : Nat) : Int) > 0 := by omega
  have c2 : acc.length < 4398046511104 := by omega
  clear p1 p2 hm2 ih hm hi hk ha hd h4
  simp only [mNames, mVals] at h1
  unfold lockagelaw06_Maker_Head.l0
  simp only [Option.bind_some, List.length_cons, List.length_nil, Nat.zero_add, Nat.reduceAdd, if_pos c1, q1, q2, if_pos a1, if_pos b1, if_pos a2, if_pos b2, if_pos c2, e1]
  exact h1
theorem Head_j0n (l : List Int) (hl : l.length ≤ 281474976710656) (hw : ∀ x ∈ l, (Lit.int .u8 x).wf = true) (m t s : ByteArray) (st mi : Int) (i k : Nat) (hi : i ≤ 100) (hk : 20 ≤ k) :
  ∃ (fs : List S37) (n : Nat), lockagelaw06_Maker_Head.j0 k l (i : Int) m t st s mi = some (m, t, st, s, mi, fs, (n : Int)) ∧ fs.length ≤ 6 ∧ MFs fs ∧ n ≤ i + 20 := by
 obtain ⟨k, rfl⟩ : ∃ j, k = j + 1 := ⟨k - 1, by omega⟩
 obtain ⟨r, p, a, b⟩ := Pick_ok l hl hw i 7 (by omega) (by omega)
 obtain ⟨d, rfl⟩ := Int.eq_ofNat_of_zero_le a
 obtain ⟨fs, j, h1, h2, h3, h4⟩ := Head_l0n l hl hw m t s st mi d (i + 1) k [] (by omega) (by simp; omega) (by omega) (by omega) (fun x hx => by cases hx)
 refine ⟨fs, j, ?_, h2, h3, by omega⟩
 unfold lockagelaw06_Maker_Head.j0
 dsimp only
 have q : lockagelaw06_Maker_Pick.f l (i : Int) 7 = some ((d : Int), ((i + 1 : Nat) : Int)) := p
 rw [q]
 simp only [Option.bind_some]
 exact h1
theorem Req_head (l : List Int) (hl : l.length ≤ 281474976710656) (hw : ∀ x ∈ l, (Lit.int .u8 x).wf = true) :
  ∃ (m t : ByteArray) (mi : Int) (fs : List S37) (n : Nat), lockagelaw06_Maker_Head.f 20 l 0 false = some (m, t, 0, ⟨#[]⟩, mi, fs, (n : Int)) ∧ m ∈ mMeths ∧ t ∈ mTargs ∧ fs.length ≤ 6 ∧ MFs fs ∧ n ≤ 30 := by
 obtain ⟨r1, p1, a1, b1⟩ := Pick_ok l hl hw 0 2 (by omega) (by omega)
 obtain ⟨r2, p2, a2, b2⟩ := Pick_ok l hl hw 1 5 (by omega) (by omega)
 obtain ⟨r3, p3, a3, b3⟩ := Pick_ok l hl hw 2 5 (by omega) (by omega)
 obtain ⟨fs, n, h1, h2, h3, h4⟩ := Head_j0n l hl hw (rdOf ByteArray.empty mMeths r2) (rdOf ByteArray.empty mTargs r3) ⟨#[]⟩ 0 (wrap64 (1 - r1)) 3 20 (by omega) (by omega)
 refine ⟨rdOf ByteArray.empty mMeths r2, rdOf ByteArray.empty mTargs r3, wrap64 (1 - r1), fs, n, ?_, rdOf_mem a2 b2, rdOf_mem a3 b3, h2, h3, by omega⟩
 unfold lockagelaw06_Maker_Head.f
 have q1 : lockagelaw06_Maker_Pick.f l 0 2 = some (r1, 1) := p1
 have q2 : lockagelaw06_Maker_Pick.f l 1 5 = some (r2, 2) := p2
 have q3 : lockagelaw06_Maker_Pick.f l 2 5 = some (r3, 3) := p3
 have q4 : lockagelaw06_Maker_Head.j0 20 l 3 (rdOf ByteArray.empty mMeths r2) (rdOf ByteArray.empty mTargs r3) 0 ⟨#[]⟩ (wrap64 (1 - r1)) = some (rdOf ByteArray.empty mMeths r2, rdOf ByteArray.empty mTargs r3, 0, ⟨#[]⟩, wrap64 (1 - r1), fs, (n : Int)) := h1
 clear p1 p2 p3 h1 hw hl
 rw [q1]
 simp only [Option.bind_some]
 rw [if_neg (by decide), q2]
 simp only [Option.bind_some]
 simp only [List.length_cons, List.length_nil, Nat.zero_add, Nat.reduceAdd]
 rw [if_pos a2, if_pos b2, q3]
 simp only [Option.bind_some]
 rw [if_pos a3, if_pos b3]
 simp only [mMeths, mTargs] at q4 ⊢
 rw [q4]
theorem Request_ev (l : List Int) (hl : l.length ≤ 281474976710656) (hw : ∀ x ∈ l, (Lit.int .u8 x).wf = true) :
  ∃ m t mi fs body, (∀ k, 20 ≤ k → lockagelaw16_Request.f k l = some (m, t, 0, ⟨#[]⟩, mi, fs, body)) ∧ m ∈ mMeths ∧ t ∈ mTargs ∧ (body = (⟨#[120]⟩ : ByteArray) ∨ body = (⟨#[]⟩ : ByteArray)) ∧ fs.length ≤ 6 ∧ MFs fs := by
 obtain ⟨m, t, mi, fs, n, hh, hm, ht, h2, h3, h4⟩ := Req_head l hl hw
 obtain ⟨r4, p4, a4, b4⟩ := Pick_ok l hl hw n 3 (by omega) (by omega)
 obtain ⟨r5, p5, a5, b5⟩ := Pick_ok l hl hw (n + 1) 6 (by omega) (by omega)
 refine ⟨(if r4 > 0 then (⟨#[71, 69, 84]⟩ : ByteArray) else m), t, mi, fs, (if r5 = 5 then (⟨#[120]⟩ : ByteArray) else (⟨#[]⟩ : ByteArray)), fun k hk => at_rounds (lockagelaw16_Request.mono l) hk ?_, ?_, ht, ?_, h2, h3⟩
 ·have q5 : lockagelaw06_Maker_Pick.f l (n : Int) 3 = some (r4, ((n + 1 : Nat) : Int)) := p4
  have q6 : lockagelaw06_Maker_Pick.f l ((n + 1 : Nat) : Int) 6 = some (r5, ((n + 1 + 1 : Nat) : Int)) := p5
  unfold lockagelaw16_Request.f
  rw [hh, Option.bind_some]
  dsimp only
  rw [q5, Option.bind_some]
  dsimp only
  rw [q6, Option.bind_some]
 ·split
  ·exact List.mem_cons_self
  ·exact hm
 ·split
  ·exact .inl rfl
  ·exact .inr rfl
end Go.Proofs.YthmallhjbhphgaaGreatDoor.P
namespace Go.Proofs.YthmallhjbhphgaaGreatDoor.P
open Go.RowKit Go.Proofs.YthmallhjbhphgaaGreatDoorW.PrintWords Go.Proofs.YthmallhjbhphgaaGreatDoorW.PrintLast Go.Proofs.YthmallhjbhphgaaGreatDoorW.PrintMore
theorem mkS_inj {a b : List UInt8} (h : (mkS a).toList = (mkS b).toList) : a = b := by rw [toList_data, toList_data, mkS_list, mkS_list] at h; exact h
theorem MFs.fitK {fs : List S37} (h : MFs fs) (hn : fs.length ≤ 2010) : FitK fs :=
 ⟨hn, fun x hx => by have h1 := (names_good _ (h x hx).1).2; have h2 := (vals_good _ (h x hx).2).2; omega⟩
theorem awake16 : lockagelaw16_awake.f 300 = some true := by kernel_rfl
theorem awake16_k (k : Nat) (hk : 300 ≤ k) : lockagelaw16_awake.f k = some true := at_rounds lockagelaw16_awake.mono hk awake16
end Go.Proofs.YthmallhjbhphgaaGreatDoor.P
namespace Go.Proofs.YthmallhjbhphgaaGreatDoor.P
open Go.RowKit Go.Proofs.YthmallhjbhphgaaGreatDoorW.PrintWords Go.Proofs.YthmallhjbhphgaaGreatDoorW.PrintLast Go.Proofs.YthmallhjbhphgaaGreatDoorW.PrintMore
theorem rdOf_at2 {l : List ByteArray} {j : Nat} (h : j < l.length) : rdOf ByteArray.empty l (j : Int) = l[j] := by simp [rdOf, h]
theorem Strings_gen (l m : List ByteArray) (hl : l.length < 4398046511104) (he : l.length = m.length) :
  ∀ (d i k : Nat), l.length - i = d → i ≤ l.length → d + 1 ≤ k → lockageref05_Strings.l0 k l m i = some (decide (l.drop i = m.drop i))
 | d, i, 0, hd, hi, hk => by omega
 | d, i, k + 1, hd, hi, hk => by
  unfold lockageref05_Strings.l0
  by_cases hlt : i < l.length
  ·have ew : wrap64 ((i : Int) + 1) = ((i + 1 : Nat) : Int) := by unfold wrap64; omega
   have h2 : i < m.length := by omega
   have e1 : l.drop i = l[i] :: l.drop (i + 1) := List.drop_eq_getElem_cons hlt
   have e2 : m.drop i = m[i] :: m.drop (i + 1) := List.drop_eq_getElem_cons h2
   rw [if_pos (by omega), if_pos (by omega), if_pos (by omega), rdOf_at2 hlt, rdOf_at2 h2, ew]
   by_cases e : l[i] = m[i]
   ·rw [if_pos (by rw [e]), Strings_gen l m hl he (d - 1) (i + 1) k (by omega) (by omega) (by omega), e1, e2, e]
    congr 1
    rw [decide_eq_decide]
    exact ⟨fun h => by rw [h], fun h => by injection h⟩
   ·rw [if_neg (fun h => e (H.ba_ext (by rw [toList_data, toList_data] at h; exact h)))]
    congr 1
    symm
    rw [decide_eq_false_iff_not, e1, e2]
    intro h
    injection h with h _
    exact e h
  ·rw [if_neg (by omega), List.drop_of_length_le (by omega), List.drop_of_length_le (by omega)]
   simp
theorem Strings_any (l m : List ByteArray) (hl : l.length < 4398046511104) (k : Nat) (hk : l.length + 1 ≤ k) : lockageref05_Strings.f k l m = some (decide (l = m)) := by
 unfold lockageref05_Strings.f
 by_cases e : l.length = m.length
 ·rw [if_pos (by omega)]
  have := Strings_gen l m hl e l.length 0 k (Nat.sub_zero _) (Nat.zero_le _) hk
  rw [List.drop_zero, List.drop_zero] at this
  exact this
 ·rw [if_neg (by omega), decide_eq_false (fun h => e (by rw [h]))]
theorem line_eq : ∀ (x y A B : List UInt8), (10 : UInt8) ∉ x → (10 : UInt8) ∉ y → x ++ 10 :: A = y ++ 10 :: B → x = y ∧ A = B
 | [], [], A, B, _, _, h => by injection h with _ h; exact ⟨rfl, h⟩
 | [], c :: y, A, B, _, hy, h => by
  injection h with h _
  exact absurd (by rw [h]; exact List.mem_cons_self) hy
 | c :: x, [], A, B, hx, _, h => by
  injection h with h _
  exact absurd (by rw [← h]; exact List.mem_cons_self) hx
 | c :: x, e :: y, A, B, hx, hy, h => by
  injection h with h1 h2
  obtain ⟨h3, h4⟩ := line_eq x y A B (fun q => hx (List.mem_cons_of_mem _ q)) (fun q => hy (List.mem_cons_of_mem _ q)) h2
  exact ⟨by rw [h1, h3], h4⟩
theorem line_ne : ∀ (n z r Q : List UInt8), (10 : UInt8) ∉ n → (58 : UInt8) ∉ z → n ++ 58 :: r ≠ z ++ 10 :: Q
 | [], [], r, Q, _, _, h => by injection h with h _; cases h
 | [], c :: z, r, Q, _, hz, h => by
  injection h with h _
  exact hz (by rw [h]; exact List.mem_cons_self)
 | c :: n, [], r, Q, hn, _, h => by
  injection h with h _
  exact hn (by rw [← h]; exact List.mem_cons_self)
 | c :: n, e :: z, r, Q, hn, hz, h => by
  injection h with _ h2
  exact line_ne n z r Q (fun q => hn (List.mem_cons_of_mem _ q)) (fun q => hz (List.mem_cons_of_mem _ q)) h2
def goodV (v : List ByteArray) : Prop := ∀ x ∈ v, (10 : UInt8) ∉ x.data.toList ∧ (58 : UInt8) ∉ x.data.toList
def nextP (X : List UInt8) : Prop := X = [] ∨ ∃ n r, X = n ++ 58 :: r ∧ (10 : UInt8) ∉ n
theorem next_no {X Y : List UInt8} {v : List ByteArray} (hX : nextP X) (hv : goodV v) : X ≠ valsS v ++ 10 :: Y := by
 intro h
 rcases hX with rfl | ⟨n, r, rfl, hn⟩
 ·have := congrArg List.length h
  simp at this
 ·cases v with
  | nil => exact line_ne n [] r Y hn (by simp) h
  | cons z v =>
   have e : valsS (z :: v) ++ 10 :: Y = z.data.toList ++ 10 :: (valsS v ++ 10 :: Y) := by
    unfold valsS
    rw [List.flatMap_cons]
    simp
   rw [e] at h
   exact line_ne n _ r _ hn (hv z List.mem_cons_self).2 h
theorem vals_eq : ∀ (a b : List ByteArray) (X Y : List UInt8), goodV a → goodV b → nextP X → nextP Y → valsS a ++ 10 :: X = valsS b ++ 10 :: Y → a = b ∧ X = Y
 | [], [], X, Y, _, _, _, _, h => by
  have h2 : 10 :: X = 10 :: Y := h
  injection h2 with _ h2
  exact ⟨rfl, h2⟩
 | [], y :: b, X, Y, _, hb, hX, _, h => by
  have e : valsS (y :: b) ++ 10 :: Y = y.data.toList ++ 10 :: (valsS b ++ 10 :: Y) := by
   unfold valsS
   rw [List.flatMap_cons]
   simp
  rw [e] at h
  have h2 : [] ++ 10 :: X = y.data.toList ++ 10 :: (valsS b ++ 10 :: Y) := h
  exact absurd (line_eq [] _ _ _ (by simp) (hb y List.mem_cons_self).1 h2).2 (next_no hX (fun x hx => hb x (List.mem_cons_of_mem _ hx)))
 | x :: a, [], X, Y, ha, _, _, hY, h => by
  have e : valsS (x :: a) ++ 10 :: X = x.data.toList ++ 10 :: (valsS a ++ 10 :: X) := by
   unfold valsS
   rw [List.flatMap_cons]
   simp
  rw [e] at h
  have h2 : [] ++ 10 :: Y = x.data.toList ++ 10 :: (valsS a ++ 10 :: X) := h.symm
  exact absurd (line_eq [] _ _ _ (by simp) (ha x List.mem_cons_self).1 h2).2 (next_no hY (fun z hz => ha z (List.mem_cons_of_mem _ hz)))
 | x :: a, y :: b, X, Y, ha, hb, hX, hY, h => by
  have e1 : valsS (x :: a) ++ 10 :: X = x.data.toList ++ 10 :: (valsS a ++ 10 :: X) := by
   unfold valsS
   rw [List.flatMap_cons]
   simp
  have e2 : valsS (y :: b) ++ 10 :: Y = y.data.toList ++ 10 :: (valsS b ++ 10 :: Y) := by
   unfold valsS
   rw [List.flatMap_cons]
   simp
  rw [e1, e2] at h
  obtain ⟨h1, h2⟩ := line_eq _ _ _ _ (ha x List.mem_cons_self).1 (hb y List.mem_cons_self).1 h
  obtain ⟨h3, h4⟩ := vals_eq a b X Y (fun z hz => ha z (List.mem_cons_of_mem _ hz)) (fun z hz => hb z (List.mem_cons_of_mem _ hz)) hX hY h2
  exact ⟨by rw [H.ba_ext h1, h3], h4⟩
theorem split_next (ns : List ByteArray) (fs : List S37) (h : ∀ n ∈ ns, (10 : UInt8) ∉ Sp.lower n.data.toList) : nextP (splitS ns fs) := by
 cases ns with
 | nil => exact .inl rfl
 | cons n ns => exact .inr ⟨Sp.lower n.data.toList, valsS (getS fs n) ++ [10] ++ splitS ns fs, by unfold splitS nameS; rw [List.flatMap_cons]; simp, h n List.mem_cons_self⟩
theorem split_vals (a b : List S37) (ha : ∀ n, goodV (getS a n)) (hb : ∀ n, goodV (getS b n)) : ∀ (ns : List ByteArray), (∀ n ∈ ns, (10 : UInt8) ∉ Sp.lower n.data.toList) → (splitS ns a = splitS ns b ↔ ∀ n ∈ ns, getS a n = getS b n)
 | [], _ => by simp [splitS]
 | n :: ns, h => by
  have ih := split_vals a b ha hb ns (fun m hm => h m (List.mem_cons_of_mem _ hm))
  have e : ∀ fs, splitS (n :: ns) fs = Sp.lower n.data.toList ++ 58 :: (valsS (getS fs n) ++ 10 :: splitS ns fs) := fun fs => by
   unfold splitS nameS
   rw [List.flatMap_cons]
   simp
  constructor
  ·intro hq
   rw [e a, e b] at hq
   have h2 := List.append_cancel_left hq
   injection h2 with _ h2
   obtain ⟨h3, h4⟩ := vals_eq _ _ _ _ (ha n) (hb n) (split_next ns a (fun m hm => h m (List.mem_cons_of_mem _ hm))) (split_next ns b (fun m hm => h m (List.mem_cons_of_mem _ hm))) h2
   intro m hm
   rcases List.mem_cons.1 hm with rfl | hm
   ·exact h3
   ·exact ih.1 h4 m hm
  ·intro hq
   rw [e a, e b, hq n List.mem_cons_self, ih.2 (fun m hm => hq m (List.mem_cons_of_mem _ hm))]
theorem vals_plain : ∀ v ∈ mVals, (10 : UInt8) ∉ v.data.toList ∧ (58 : UInt8) ∉ v.data.toList := by
 have h : (mVals.all fun v => !(v.data.toList.contains 10) && !(v.data.toList.contains 58)) = true := by kernel_rfl
 intro v hv
 have := List.all_eq_true.1 h v hv
 simpa using this
theorem items_plain : ∀ v ∈ mVals, ∀ x ∈ itemsB v, (10 : UInt8) ∉ x.data.toList := by
 have h : (mVals.all fun v => (itemsB v).all fun x => !(x.data.toList.contains 10)) = true := by kernel_rfl
 intro v hv x hx
 have := List.all_eq_true.1 (List.all_eq_true.1 h v hv) x hx
 simpa using this
theorem MFs.vals {fs : List S37} (h : MFs fs) (n : ByteArray) : goodV (getS fs n) := by
 intro x hx
 obtain ⟨f, hf, rfl⟩ := getK_mem hx
 exact vals_plain _ (h f hf).2
theorem MFs.names {fs : List S37} (h : MFs fs) : ∀ n ∈ (varyR fs).1, (10 : UInt8) ∉ n.data.toList := by
 intro n hn
 unfold varyR at hn
 split at hn
 ·cases hn
 ·have hn := (varyL_mem _ _).1 hn
  unfold itemsN at hn
  obtain ⟨v, hv, hx⟩ := List.mem_flatMap.1 hn
  obtain ⟨f, hf, rfl⟩ := getK_mem hv
  exact items_plain _ (h f hf).2 n hx
theorem varyR_sorted (fs : List S37) (i : Nat) (h : i + 1 < (varyR fs).1.length) : Op.bytesLess ((varyR fs).1[i]).toList ((varyR fs).1[i + 1]).toList = true := by
 rw [bytesLess_eq, decide_eq_true_eq, toList_data, toList_data]
 have key : (varyR fs).1.Pairwise (fun a b => a.data.toList < b.data.toList) := by
  unfold varyR
  split
  ·exact List.Pairwise.nil
  ·unfold varyL
   rw [List.pairwise_map]
   exact (varyS_sorted _).imp fun {a b} h => by simpa using h
 exact List.pairwise_iff_getElem.1 key i (i + 1) (by omega) h (by omega)
theorem Values_l0 (ns : List ByteArray) (hn : ns.length ≤ 4042110) (hz : ∀ x ∈ ns, x.size ≤ 2010 ∧ Sp.lower x.data.toList = x.data.toList) (hs : ∀ (i : Nat) (h : i + 1 < ns.length), Op.bytesLess (ns[i]).toList (ns[i + 1]).toList = true)
  (ma ta : ByteArray) (sa : Int) (ra : ByteArray) (ia : Int) {fa : List S37} (Fa : FitK fa) (ba : ByteArray) (mb tb : ByteArray) (sb : Int) (rb : ByteArray) (ib : Int) {fb : List S37} (Fb : FitK fb) (bb : ByteArray)
  (heq : splitS ns fa = splitS ns fb ↔ ∀ n ∈ ns, getS fa n = getS fb n) :
  ∀ (d i k : Nat) (c : Bool), ns.length - i = d → i ≤ ns.length → (c = true ↔ ∀ n ∈ ns.take i, getS fa n = getS fb n) → 2 * d + 5000010 ≤ k → lockagelaw16_KeyValues.l0 k true ns c (i : Int) ma ta sa ra ia fa ba mb tb sb rb ib fb bb = some true := by
 have hna := Fa.n
 have hnb := Fb.n
 intro d
 induction d with
 | zero =>
  intro i k c hd hi hc hk
  obtain ⟨k, rfl⟩ : ∃ j, k = j + 1 := ⟨k - 1, by omega⟩
  rw [lockagelaw16_KeyValues.l0, if_neg (by omega), if_pos rfl, key_Split_ev Fa ns hn (fun x hx => by have := (hz x hx).1; omega) k (by omega), Option.bind_some, key_Split_ev Fb ns hn (fun x hx => by have := (hz x hx).1; omega) k (by omega), Option.bind_some]
  rw [List.take_of_length_le (by omega), ← heq] at hc
  congr 1
  rw [beq_iff_eq, Bool.eq_iff_iff, hc, beq_iff_eq]
  exact ⟨fun h => mkS_inj h, fun h => by rw [h]⟩
 | succ d ih =>
  intro i k c hd hi hc hk
  obtain ⟨k, rfl⟩ : ∃ j, k = j + 2 := ⟨k - 2, by omega⟩
  have hlt : i < ns.length := by omega
  obtain ⟨z1, z2⟩ := hz ns[i] (List.getElem_mem hlt)
  have hlow : lockageref05_Lower.f (k + 1) ns[i] = some ns[i] := by
   rw [Low_ev _ (by omega) _ (by omega), z2]
  have ew : wrap64 ((i : Int) + 1) = ((i + 1 : Nat) : Int) := by unfold wrap64; omega
  have htk : ns.take (i + 1) = ns.take i ++ [ns[i]] := List.take_succ_eq_append_getElem hlt
  have hj : lockagelaw16_KeyValues.j1 (k + 1) true ns c (i : Int) false ma ta sa ra ia fa ba mb tb sb rb ib fb bb = some true := by
   rw [lockagelaw16_KeyValues.j1, if_neg (by decide)]
   cases c with
   | true =>
    rw [if_pos rfl, if_pos (by omega), if_pos (by omega), rdOf_at2 hlt, RefGet_ev 5000 (by decide) fa ns[i] (by omega) (by omega) (fun y hy => by have := (Fa.x y hy).1; omega) k (by omega), Option.bind_some, RefGet_ev 5000 (by decide) fb ns[i] (by omega) (by omega) (fun y hy => by have := (Fb.x y hy).1; omega) k (by omega), Option.bind_some,
     Strings_any _ _ (by have := (Fa.get ns[i]).1; omega) k (by have := (Fa.get ns[i]).1; omega), Option.bind_some, ew]
    refine ih (i + 1) k _ (by omega) (by omega) ?_ (by omega)
    rw [decide_eq_true_eq, htk]
    constructor
    ·intro h n hn2
     rcases List.mem_append.1 hn2 with hn2 | hn2
     ·exact hc.1 rfl n hn2
     ·rw [List.mem_singleton.1 hn2]; exact h
    ·intro h
     exact h ns[i] (List.mem_append_right _ (List.mem_singleton.2 rfl))
   | false =>
    rw [if_neg (by decide), ew]
    refine ih (i + 1) k _ (by omega) (by omega) ?_ (by omega)
    constructor
    ·intro h; cases h
    ·intro h
     exact hc.2 (fun n hn2 => h n (by rw [htk]; exact List.mem_append_left _ hn2))
  have hbne : (ns[i].toList != ns[i].toList) = false := by simp
  rw [lockagelaw16_KeyValues.l0, if_pos (by omega)]
  by_cases h0 : 0 < i
  ·obtain ⟨j, rfl⟩ : ∃ j, i = j + 1 := ⟨i - 1, by omega⟩
   have ew1 : wrap64 (((j + 1 : Nat) : Int) - 1) = (j : Int) := by unfold wrap64; omega
   rw [if_pos (by omega), if_pos (by omega), ew1, if_pos (by omega), if_pos (by omega), rdOf_at2 (show j < ns.length by omega), rdOf_at2 hlt, if_pos (hs j hlt), hlow, Option.bind_some, hbne]
   exact hj
  ·rw [if_neg (by omega), if_pos (by omega), rdOf_at2 hlt, hlow, Option.bind_some, hbne]
   exact hj
theorem KeyValues_ok (l0 : List Int) (y0 : l0.length * 1 ≤ 140737488351232) (h0 : ∀ x ∈ l0, (Lit.int .u8 x).wf = true) (l1 : List Int) (y1 : l1.length * 1 ≤ 140737488351232) (h1 : ∀ x ∈ l1, (Lit.int .u8 x).wf = true) (l2 : List Int) (y2 : l2.length * 1 ≤ 140737488351232) (h2 : ∀ x ∈ l2, (Lit.int .u8 x).wf = true) :
  ∃ k, lockagelaw16_KeyValues.f k l0 l1 l2 = some true := by
 obtain ⟨ma, ta, mia, fa, ba, ea, _, _, _, na, Ha⟩ := Request_ev l0 (by omega) h0
 obtain ⟨mb, tb, mib, fb, bb, eb, _, _, _, nb, Hb⟩ := Request_ev l1 (by omega) h1
 obtain ⟨st, rs, mi, fh, eh, _, _, _, nh, Hh⟩ := Made_true l2 (by omega) h2
 have Fa := Ha.fitK (by omega)
 have Fb := Hb.fitK (by omega)
 have Fh := Hh.fitK (by omega)
 obtain ⟨n1, n2⟩ := vary_names Fh
 refine ⟨20000000, ?_⟩
 unfold lockagelaw16_KeyValues.f
 rw [awake16_k _ (by decide), Option.bind_some, if_pos rfl, ea _ (by decide), Option.bind_some, eb _ (by decide), Option.bind_some, eh _ (by decide), Option.bind_some]
 dsimp only
 rw [key_Vary_ev Fh _ (by decide), Option.bind_some]
 cases hv : (varyR fh).2 with
 | false =>
  have e : (varyR fh).1 = [] := by
   unfold varyR at hv ⊢
   split
   ·rfl
   ·rename_i h
    rw [if_neg h] at hv
    cases hv
  rw [if_neg (by decide), e]
  rfl
 | true =>
  rw [if_pos rfl]
  refine Values_l0 (varyR fh).1 n1 n2 (varyR_sorted fh) _ _ _ _ _ Fa _ _ _ _ _ _ Fb _ (split_vals fa fb Ha.vals Hb.vals _ (fun n hn => ?_)) (varyR fh).1.length 0 _ true (Nat.sub_zero _) (Nat.zero_le _) (by simp) (by omega)
  rw [(n2 n hn).2]
  exact Hh.names n hn
end Go.Proofs.YthmallhjbhphgaaGreatDoor.P
