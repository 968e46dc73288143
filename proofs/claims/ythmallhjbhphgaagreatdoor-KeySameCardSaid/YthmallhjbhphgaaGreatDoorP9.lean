/- Several parts together: Plain facts about the plain functions of header fields: small letters, trimming, names, cutting; lists of bytes alone; What the printed functions of header fields come to: names, values, what a name has; plain Lean, no program; What the reference functions of header fields come to: small letters, what a name has; plain Lean, no program; What lockagelaw06.Made comes to: a right head of at most six fields, names and values from two lists; plain Lean, no program; What lockagelaw06.Made comes to where it makes an answer; plain Lean, no program; Staying open, in plain Lean: what frame.Stays comes to; What the functions of package key come to: plain Lean, no program; A request by numbers: what lockagelaw16.Request comes to; plain Lean, no program; The law KeyFits answers true; plain Lean, no program; What the reference's comparing and dropping come to; plain Lean, no program; The law KeySame answers true; plain Lean, no program. -/
import Derived.Test.YthmallhjbhphgaaGreatDoorHZA
import Derived.Test.YthmallhjbhphgaaGreatDoorHZB
import Derived.Test.YthmallhjbhphgaaGreatDoorPx1
import Derived.Lib.LazyBuf
import Derived.Test.YthmallhjbhphgaaGreatDoorPx5
import Derived.Test.YthmallhjbhphgaaGreatDoorHZC
import Derived.OpenShut
import Derived.Test.YthmallhjbhphgaaGreatDoorPx2
import Derived.Test.YthmallhjbhphgaaGreatDoorPx4
import Derived.Test.YthmallhjbhphgaaGreatDoorPx0
import Derived.Test.YthmallhjbhphgaaGreatDoorPx20
import Derived.Test.YthmallhjbhphgaaGreatDoorHZD
set_option linter.unusedVariables false
set_option linter.unusedSimpArgs false
namespace Go.Proofs.YthmallhjbhphgaaGreatDoor.Sp
theorem lower_length (l : List UInt8) : (lower l).length = l.length := by unfold lower; rw [List.length_map]

end Go.Proofs.YthmallhjbhphgaaGreatDoor.Sp
namespace Go.Proofs.YthmallhjbhphgaaGreatDoor.P
open Go.RowKit Go.Proofs.YthmallhjbhphgaaGreatDoorW.PrintWords Go.Proofs.YthmallhjbhphgaaGreatDoorW.PrintLast Go.Proofs.YthmallhjbhphgaaGreatDoorW.PrintMore

theorem size_data (s : ByteArray) : s.data.toList.length = s.size := by rw [Array.length_toList]; rfl
theorem lower_f {a : ByteArray} (h : a.size ≤ 9223372036854775806) : field_Lower.f a = some ⟨(Sp.lower a.data.toList).toArray⟩ := by unfold field_Lower.f; rw [if_pos h]
theorem mk_size (l : List UInt8) : (⟨l.toArray⟩ : ByteArray).size = l.length := by show l.toArray.size = _; rw [List.size_toArray]
theorem toList_data (a : ByteArray) : a.toList = a.data.toList := ByteArray.toList_eq a
def getS (l : List S37) (a : ByteArray) : List ByteArray := (l.filter fun x => Sp.lower x.f0.data.toList == Sp.lower a.data.toList).map (·.f1)
theorem getS_length (l : List S37) (a : ByteArray) : (getS l a).length ≤ l.length := by
 unfold getS
 rw [List.length_map]
 exact List.length_filter_le _ _
theorem field_Get_at (l : List S37) (a : ByteArray) (hl : l.length < 4398046511104) (ha : a.size ≤ 9223372036854775806) (hn : ∀ x ∈ l, x.f0.size ≤ 9223372036854775806) :
  ∀ (d i k : Nat) (acc : List ByteArray), l.length - i = d → i ≤ l.length → acc.length ≤ i → d + 1 ≤ k → field_Get.l0 k a acc l (l.length : Int) i = some (acc ++ getS (l.drop i) a)
 | d, i, 0, acc, hd, hi, hacc, hk => by omega
 | d, i, k + 1, acc, hd, hi, hacc, hk => by
  unfold field_Get.l0
  by_cases hlt : i < l.length
  ·rw [if_pos (by omega), if_pos (by omega), if_pos (by omega)]
   have hx : rd_T37 l (i : Int) = l[i] := by simp [rd_T37, hlt]
   have hs := hn l[i] (List.getElem_mem hlt)
   have ew : wrap64 ((i : Int) + 1) = ((i + 1 : Nat) : Int) := by unfold wrap64; omega
   rw [hx, lower_f hs, lower_f ha, ew]
   simp only [Option.bind_some]
   have ed : l.drop i = l[i] :: l.drop (i + 1) := List.drop_eq_getElem_cons hlt
   have eg : getS (l.drop i) a = (if (Sp.lower l[i].f0.data.toList == Sp.lower a.data.toList) = true then [l[i].f1] else []) ++ getS (l.drop (i + 1)) a := by
    rw [ed]
    unfold getS
    rw [List.filter_cons]
    split <;> simp
   rw [eg]
   by_cases c : Sp.lower l[i].f0.data.toList = Sp.lower a.data.toList
   ·rw [if_pos (by rw [toList_data, toList_data]; simpa using c), if_pos (by omega), if_pos (by simpa using c)]
    rw [field_Get_at l a hl ha hn (d - 1) (i + 1) k _ (by omega) (by omega) (by simp; omega) (by omega), List.append_assoc]
   ·rw [if_neg (by rw [toList_data, toList_data]; simpa using c), if_neg (by simpa using c)]
    rw [field_Get_at l a hl ha hn (d - 1) (i + 1) k _ (by omega) (by omega) (by omega) (by omega), List.nil_append]
  ·rw [if_neg (by omega), List.drop_of_length_le (by omega)]
   simp [getS]
theorem field_Get_ev (l : List S37) (a : ByteArray) (hl : l.length < 4398046511104) (ha : a.size ≤ 9223372036854775806) (hn : ∀ x ∈ l, x.f0.size ≤ 9223372036854775806) (k : Nat) (hk : l.length + 1 ≤ k) :
  field_Get.f k l a = some (getS l a) := by
 unfold field_Get.f
 have := field_Get_at l a hl ha hn l.length 0 k [] (by omega) (by omega) (by simp) hk
 simpa using this
end Go.Proofs.YthmallhjbhphgaaGreatDoor.P
namespace Go.Proofs.YthmallhjbhphgaaGreatDoor.P
open Go.RowKit Go.Proofs.YthmallhjbhphgaaGreatDoorW.PrintWords Go.Proofs.YthmallhjbhphgaaGreatDoorW.PrintLast Go.Proofs.YthmallhjbhphgaaGreatDoorW.PrintMore

theorem wrap_next (n : Nat) (h : n < 8796093022208) : wrap64 ((n : Int) + 1) = ((n + 1 : Nat) : Int) := by unfold wrap64; omega
theorem bt_low {x : ByteArray} {i : Nat} (h : i < x.size) : bt x (i : Int) = ((x.data.toList[i]'(by rw [size_data]; exact h)).toNat : Int) := by
 unfold bt
 rw [dif_pos (by simpa using h)]
 rfl
theorem one_byte (c : UInt8) : (strOfNums [(c.toNat : Int)]) = ⟨#[c]⟩ := by
 have := Lib.Lz.strOfNums_map [c]
 simpa using this
theorem low_num (c : UInt8) (h : 65 ≤ (c.toNat : Int)) (h' : (c.toNat : Int) ≤ 90) : ((c.toNat : Int) + 32) % 256 = ((Sp.lowC c).toNat : Int) := by
 unfold Sp.lowC
 have h1 : (65 : UInt8) ≤ c := by rw [UInt8.le_iff_toNat_le]; simp; omega
 have h2 : c ≤ (90 : UInt8) := by rw [UInt8.le_iff_toNat_le]; simp; omega
 rw [if_pos (by simp [h1, h2]), UInt8.toNat_add]
 simp
theorem low_same (c : UInt8) (h : ¬ (65 ≤ (c.toNat : Int) ∧ (c.toNat : Int) ≤ 90)) : Sp.lowC c = c := by
 unfold Sp.lowC
 rw [if_neg]
 intro e
 simp only [Bool.and_eq_true, decide_eq_true_eq] at e
 obtain ⟨h1, h2⟩ := e
 rw [UInt8.le_iff_toNat_le] at h1 h2
 simp at h1 h2
 omega
theorem Low_at (x : ByteArray) (hx : x.size ≤ 9223372036854775806) :
  ∀ (d i k : Nat) (acc : ByteArray), x.size - i = d → i ≤ x.size → acc.size ≤ i → d + 1 ≤ k → lockageref05_Lower.l0 k x acc i = some ⟨(acc.data.toList ++ Sp.lower (x.data.toList.drop i)).toArray⟩
 | d, i, 0, acc, hd, hi, hacc, hk => by omega
 | d, i, k + 1, acc, hd, hi, hacc, hk => by
  unfold lockageref05_Lower.l0
  by_cases hlt : i < x.size
  ·rw [if_pos (by omega), if_pos (by omega)]
   have hl : i < x.data.toList.length := by rw [size_data]; exact hlt
   have ew : wrap64 ((i : Int) + 1) = ((i + 1 : Nat) : Int) := by unfold wrap64; omega
   have ed : x.data.toList.drop i = x.data.toList[i] :: x.data.toList.drop (i + 1) := List.drop_eq_getElem_cons hl
   have go : ∀ c : UInt8, Sp.lowC (x.data.toList[i]) = c → (if acc.size + (strOfNums [(c.toNat : Int)]).size ≤ 9223372036854775807 then lockageref05_Lower.l0 k x (acc ++ strOfNums [(c.toNat : Int)]) (wrap64 ((i : Int) + 1)) else none) = some ⟨(acc.data.toList ++ Sp.lower (x.data.toList.drop i)).toArray⟩ := by
    intro c hc
    have s1 : (⟨#[c]⟩ : ByteArray).size = 1 := rfl
    rw [one_byte, if_pos (by omega), ew, Low_at x hx (d - 1) (i + 1) k _ (by omega) (by omega) (by rw [ByteArray.size_append]; omega) (by omega), ed]
    have e1 : Sp.lower (x.data.toList[i] :: x.data.toList.drop (i + 1)) = c :: Sp.lower (x.data.toList.drop (i + 1)) := by rw [← hc]; rfl
    have e2 : (acc ++ (⟨#[c]⟩ : ByteArray)).data.toList = acc.data.toList ++ [c] := by rw [ByteArray.data_append]; simp
    rw [e1, e2, List.append_assoc]
    rfl
   rw [bt_low hlt]
   simp only [Option.bind_some]
   by_cases h1 : (x.data.toList[i].toNat : Int) ≥ 65
   ·rw [if_pos h1]
    by_cases h2 : (x.data.toList[i].toNat : Int) ≤ 90
    ·rw [if_pos h2, low_num _ h1 h2]
     exact go _ rfl
    ·rw [if_neg h2]
     exact go _ (low_same _ (by omega))
   ·rw [if_neg h1]
    exact go _ (low_same _ (by omega))
  ·rw [if_neg (by omega), List.drop_of_length_le (by rw [size_data]; omega)]
   have : (⟨(acc.data.toList ++ Sp.lower []).toArray⟩ : ByteArray) = acc := H.ba_ext (by simp [Sp.lower])
   rw [this]
theorem Low_ev (x : ByteArray) (hx : x.size ≤ 9223372036854775806) (k : Nat) (hk : x.size + 1 ≤ k) : lockageref05_Lower.f k x = some ⟨(Sp.lower x.data.toList).toArray⟩ := by
 unfold lockageref05_Lower.f
 have := Low_at x hx x.size 0 k ⟨#[]⟩ (by omega) (by omega) (by decide) (by omega)
 simpa using this
end Go.Proofs.YthmallhjbhphgaaGreatDoor.P
namespace Go.Proofs.YthmallhjbhphgaaGreatDoor.P
open Go.RowKit Go.Proofs.YthmallhjbhphgaaGreatDoorW.PrintWords Go.Proofs.YthmallhjbhphgaaGreatDoorW.PrintLast Go.Proofs.YthmallhjbhphgaaGreatDoorW.PrintMore
def mNames : List ByteArray := [(⟨#[72, 111, 115, 116]⟩ : ByteArray), (⟨#[67, 111, 110, 116, 101, 110, 116, 45, 76, 101, 110, 103, 116, 104]⟩ : ByteArray), (⟨#[84, 114, 97, 110, 115, 102, 101, 114, 45, 69, 110, 99, 111, 100, 105, 110, 103]⟩ : ByteArray), (⟨#[67, 111, 110, 110, 101, 99, 116, 105, 111, 110]⟩ : ByteArray), (⟨#[67, 111, 111, 107, 105, 101]⟩ : ByteArray), (⟨#[86, 97, 114, 121]⟩ : ByteArray), (⟨#[65]⟩ : ByteArray), (⟨#[97, 99, 99, 101, 112, 116]⟩ : ByteArray), (⟨#[82, 97, 110, 103, 101]⟩ : ByteArray), (⟨#[67, 97, 99, 104, 101, 45, 67, 111, 110, 116, 114, 111, 108]⟩ : ByteArray), (⟨#[65, 117, 116, 104, 111, 114, 105, 122, 97, 116, 105, 111, 110]⟩ : ByteArray), (⟨#[88, 45, 70, 111, 114, 119, 97, 114, 100, 101, 100, 45, 70, 111, 114]⟩ : ByteArray), (⟨#[75, 101, 101, 112, 45, 65, 108, 105, 118, 101]⟩ : ByteArray)]
def mVals : List ByteArray := [(⟨#[]⟩ : ByteArray), (⟨#[51]⟩ : ByteArray), (⟨#[99, 104, 117, 110, 107, 101, 100]⟩ : ByteArray), (⟨#[99, 108, 111, 115, 101]⟩ : ByteArray), (⟨#[107, 101, 101, 112, 45, 97, 108, 105, 118, 101, 44, 32, 65]⟩ : ByteArray), (⟨#[97, 44, 32, 98]⟩ : ByteArray), (⟨#[110, 111, 45, 115, 116, 111, 114, 101]⟩ : ByteArray), (⟨#[48]⟩ : ByteArray), (⟨#[120]⟩ : ByteArray), (⟨#[65, 99, 99, 101, 112, 116]⟩ : ByteArray), (⟨#[97, 99, 99, 101, 112, 116, 44, 32, 65]⟩ : ByteArray)]
def mMeths : List ByteArray := [(⟨#[71, 69, 84]⟩ : ByteArray), (⟨#[80, 79, 83, 84]⟩ : ByteArray), (⟨#[72, 69, 65, 68]⟩ : ByteArray), (⟨#[80, 85, 84]⟩ : ByteArray), (⟨#[120, 45, 121]⟩ : ByteArray)]
def mTargs : List ByteArray := [(⟨#[47]⟩ : ByteArray), (⟨#[47, 97, 47, 98]⟩ : ByteArray), (⟨#[47, 97, 63, 120, 61, 49]⟩ : ByteArray), (⟨#[42]⟩ : ByteArray), (⟨#[47, 37, 52, 49]⟩ : ByteArray)]
theorem rdOf_mem {l : List ByteArray} {i : Int} (h0 : 0 ≤ i) (h : i < (l.length : Int)) : rdOf ByteArray.empty l i ∈ l := by
 have hl : i.toNat < l.length := by omega
 unfold rdOf
 rw [List.getD_eq_getElem?_getD, List.getElem?_eq_getElem hl]
 exact List.getElem_mem hl
theorem Pick_ok (l : List Int) (hl : l.length ≤ 281474976710656) (hw : ∀ x ∈ l, (Lit.int .u8 x).wf = true) (i n : Nat) (hi : i ≤ 1000) (hn : 0 < n) :
  ∃ r : Int, lockagelaw06_Maker_Pick.f l i n = some (r, ((i + 1 : Nat) : Int)) ∧ 0 ≤ r ∧ r < n := by
 have e1 : wrap64 ((i : Int) + 1) = ((i + 1 : Nat) : Int) := by unfold wrap64; omega
 have e2 : wrap64 (((i + 1 : Nat) : Int) - 1) = (i : Int) := by unfold wrap64; omega
 unfold lockagelaw06_Maker_Pick.f
 rw [e1, e2]
 clear e1 e2
 by_cases h : ((i + 1 : Nat) : Int) > (l.length : Int)
 ·rw [if_pos h]
  exact ⟨0, rfl, by omega, by omega⟩
 ·have hx : rd l (i : Int) = l[i]'(by omega) := by simp [rd, show i < l.length by omega]
  have hb := bounds_u8 (hw (l[i]'(by omega)) (List.getElem_mem _))
  have ex : wrap64 (l[i]'(by omega)) = l[i]'(by omega) := by
   generalize l[i]'(by omega) = v at hb
   unfold wrap64; omega
  rw [if_neg h, if_pos (by omega), if_pos (by omega), if_neg (by omega), hx, ex]
  exact ⟨_, rfl, Int.tmod_nonneg _ hb.1, Int.tmod_lt_of_pos _ (by omega)⟩
def MFs (l : List S37) : Prop := ∀ x ∈ l, x.f0 ∈ mNames ∧ x.f1 ∈ mVals
theorem names_good : ∀ m ∈ mNames, Sp.nameB m.data.toList = true ∧ m.size ≤ 100 := by
 have h : (mNames.all fun m => Sp.nameB m.data.toList && decide (m.size ≤ 100)) = true := by kernel_rfl
 intro m hm
 have := List.all_eq_true.1 h m hm
 simpa using this
theorem vals_good : ∀ m ∈ mVals, Sp.valB m.data.toList = true ∧ m.size ≤ 100 := by
 have h : (mVals.all fun m => Sp.valB m.data.toList && decide (m.size ≤ 100)) = true := by kernel_rfl
 intro m hm
 have := List.all_eq_true.1 h m hm
 simpa using this
end Go.Proofs.YthmallhjbhphgaaGreatDoor.P
namespace Go.Proofs.YthmallhjbhphgaaGreatDoor.P
open Go.RowKit Go.Proofs.YthmallhjbhphgaaGreatDoorW.PrintWords Go.Proofs.YthmallhjbhphgaaGreatDoorW.PrintLast Go.Proofs.YthmallhjbhphgaaGreatDoorW.PrintMore
end Go.Proofs.YthmallhjbhphgaaGreatDoor.P
namespace Go.Proofs.YthmallhjbhphgaaGreatDoor.P
open Go.RowKit Go.Proofs.YthmallhjbhphgaaGreatDoorW.PrintWords Go.Proofs.YthmallhjbhphgaaGreatDoorW.PrintLast Go.Proofs.YthmallhjbhphgaaGreatDoorW.PrintMore
end Go.Proofs.YthmallhjbhphgaaGreatDoor.P
namespace Go.Proofs.YthmallhjbhphgaaGreatDoor.P
open Go.RowKit Go.Proofs.YthmallhjbhphgaaGreatDoorW.PrintWords Go.Proofs.YthmallhjbhphgaaGreatDoorW.PrintLast Go.Proofs.YthmallhjbhphgaaGreatDoorW.PrintMore
structure FitK (fs : List S37) : Prop where
 n : fs.length ≤ 2010
 x : ∀ x ∈ fs, x.f0.size ≤ 2010 ∧ x.f1.size ≤ 2010
theorem getK_mem {fs : List S37} {a v : ByteArray} (h : v ∈ getS fs a) : ∃ x ∈ fs, v = x.f1 := by
 unfold getS at h
 obtain ⟨x, hx, rfl⟩ := List.mem_map.1 h
 exact ⟨x, (List.mem_filter.1 hx).1, rfl⟩
theorem FitK.get {fs : List S37} (h : FitK fs) (a : ByteArray) : (getS fs a).length ≤ 2010 ∧ ∀ v ∈ getS fs a, v.size ≤ 2010 := by
 refine ⟨Nat.le_trans (getS_length _ _) h.n, fun v hv => ?_⟩
 obtain ⟨x, hx, rfl⟩ := getK_mem hv
 exact (h.x x hx).2
theorem flatK_len (B : Nat) : ∀ g : List ByteArray, (∀ v ∈ g, v.size ≤ B) → (g.flatMap itemsB).length ≤ g.length * (B + 1)
 | [], _ => by simp
 | v :: g, h => by
  have h1 := flatK_len B g (fun x hx => h x (List.mem_cons_of_mem _ hx))
  have h2 := items_le v
  have h3 := h v List.mem_cons_self
  rw [List.flatMap_cons, List.length_append, List.length_cons, Nat.succ_mul]
  omega
def itemsN (fs : List S37) (a : ByteArray) : List ByteArray := (getS fs a).flatMap itemsB
theorem FitK.len {fs : List S37} (h : FitK fs) (a : ByteArray) : (itemsN fs a).length ≤ 4042110 := by
 obtain ⟨h1, h2⟩ := h.get a
 have h3 := flatK_len 2010 _ h2
 have h4 : (getS fs a).length * (2010 + 1) ≤ 2010 * 2011 := Nat.mul_le_mul h1 (Nat.le_refl _)
 unfold itemsN
 omega
end Go.Proofs.YthmallhjbhphgaaGreatDoor.P
namespace Go.Proofs.YthmallhjbhphgaaGreatDoor.P
open Go.RowKit Go.Proofs.YthmallhjbhphgaaGreatDoorW.PrintWords Go.Proofs.YthmallhjbhphgaaGreatDoorW.PrintLast Go.Proofs.YthmallhjbhphgaaGreatDoorW.PrintMore
theorem Head_l0n (l : List Int) (hl : l.length ≤ 281474976710656) (hw : ∀ x ∈ l, (Lit.int .u8 x).wf = true) (m t s : ByteArray) (st mi : Int) (d : Nat) :
  ∀ (i k : Nat) (acc : List S37), d ≤ 6 → acc.length + d ≤ 6 → i + 2 * d ≤ 900 → d + 1 ≤ k → MFs acc →
   ∃ (fs : List S37) (n : Nat), lockagelaw06_Maker_Head.l0 k (d : Int) l (i : Int) m t st s mi acc = some (m, t, st, s, mi, fs, (n : Int)) ∧ fs.length ≤ 6 ∧ MFs fs ∧ n ≤ i + 2 * d := by
 induction d with
 | zero =>
  intro i k acc hd ha hi hk hm
  obtain ⟨k, rfl⟩ : ∃ j, k = j + 1 := ⟨k - 1, by omega⟩
  unfold lockagelaw06_Maker_Head.l0
  rw [if_neg (by omega)]
  exact ⟨acc, i, rfl, by omega, hm, by omega⟩
 | succ d ih =>
  intro i k acc hd ha hi hk hm
  obtain ⟨k, rfl⟩ : ∃ j, k = j + 1 := ⟨k - 1, by omega⟩
  obtain ⟨r1, p1, a1, b1⟩ := Pick_ok l hl hw i 13 (by omega) (by omega)
  obtain ⟨r2, p2, a2, b2⟩ := Pick_ok l hl hw (i + 1) 11 (by omega) (by omega)
  have hm2 : MFs (acc ++ [(⟨rdOf ByteArray.empty mNames r1, rdOf ByteArray.empty mVals r2⟩ : S37)]) := by
   intro x hx
   rcases List.mem_append.1 hx with hx | hx
   ·exact hm x hx
   ·obtain rfl := List.mem_singleton.1 hx
    exact ⟨rdOf_mem a1 b1, rdOf_mem a2 b2⟩
  obtain ⟨fs, j, h1, h2, h3, h4⟩ := ih (i + 2) k _ (by omega) (by simp; omega) (by omega) (by omega) hm2
  refine ⟨fs, j, ?_, h2, h3, by omega⟩
  have q1 : lockagelaw06_Maker_Pick.f l (i : Int) 13 = some (r1, ((i + 1 : Nat) : Int)) := p1
  have q2 : lockagelaw06_Maker_Pick.f l ((i + 1 : Nat) : Int) 11 = some (r2, ((i + 2 : Nat) : Int)) := p2
  have e1 : wrap64 (((d + 1 : Nat) : Int) - 1) = (d : Int) := by unfold wrap64; omega
  have c1 : ((d + 1 : Nat) : Int) > 0 := by omega
  have c2 : acc.length < 4398046511104 := by omega
  clear p1 p2 hm2 ih hm hi hk ha hd h4
  simp only [mNames, mVals] at h1
  unfold lockagelaw06_Maker_Head.l0
  simp only [Option.bind_some, List.length_cons, List.length_nil, Nat.zero_add, Nat.reduceAdd, if_pos c1, q1, q2, if_pos a1, if_pos b1, if_pos a2, if_pos b2, if_pos c2, e1]
  exact h1
theorem Head_j0n (l : List Int) (hl : l.length ≤ 281474976710656) (hw : ∀ x ∈ l, (Lit.int .u8 x).wf = true) (m t s : ByteArray) (st mi : Int) (i k : Nat) (hi : i ≤ 100) (hk : 20 ≤ k) :
  ∃ (fs : List S37) (n : Nat), lockagelaw06_Maker_Head.j0 k l (i : Int) m t st s mi = some (m, t, st, s, mi, fs, (n : Int)) ∧ fs.length ≤ 6 ∧ MFs fs ∧ n ≤ i + 20 := by
 obtain ⟨k, rfl⟩ : ∃ j, k = j + 1 := ⟨k - 1, by omega⟩
 obtain ⟨r, p, a, b⟩ := Pick_ok l hl hw i 7 (by omega) (by omega)
 obtain ⟨d, rfl⟩ := Int.eq_ofNat_of_zero_le a
 obtain ⟨fs, j, h1, h2, h3, h4⟩ := Head_l0n l hl hw m t s st mi d (i + 1) k [] (by omega) (by simp; omega) (by omega) (by omega) (fun x hx => by cases hx)
 refine ⟨fs, j, ?_, h2, h3, by omega⟩
 unfold lockagelaw06_Maker_Head.j0
 dsimp only
 have q : lockagelaw06_Maker_Pick.f l (i : Int) 7 = some ((d : Int), ((i + 1 : Nat) : Int)) := p
 rw [q]
 simp only [Option.bind_some]
 exact h1
theorem Req_head (l : List Int) (hl : l.length ≤ 281474976710656) (hw : ∀ x ∈ l, (Lit.int .u8 x).wf = true) :
  ∃ (m t : ByteArray) (mi : Int) (fs : List S37) (n : Nat), lockagelaw06_Maker_Head.f 20 l 0 false = some (m, t, 0, ⟨#[]⟩, mi, fs, (n : Int)) ∧ m ∈ mMeths ∧ t ∈ mTargs ∧ fs.length ≤ 6 ∧ MFs fs ∧ n ≤ 30 := by
 obtain ⟨r1, p1, a1, b1⟩ := Pick_ok l hl hw 0 2 (by omega) (by omega)
 obtain ⟨r2, p2, a2, b2⟩ := Pick_ok l hl hw 1 5 (by omega) (by omega)
 obtain ⟨r3, p3, a3, b3⟩ := Pick_ok l hl hw 2 5 (by omega) (by omega)
 obtain ⟨fs, n, h1, h2, h3, h4⟩ := Head_j0n l hl hw (rdOf ByteArray.empty mMeths r2) (rdOf ByteArray.empty mTargs r3) ⟨#[]⟩ 0 (wrap64 (1 - r1)) 3 20 (by omega) (by omega)
 refine ⟨rdOf ByteArray.empty mMeths r2, rdOf ByteArray.empty mTargs r3, wrap64 (1 - r1), fs, n, ?_, rdOf_mem a2 b2, rdOf_mem a3 b3, h2, h3, by omega⟩
 unfold lockagelaw06_Maker_Head.f
 have q1 : lockagelaw06_Maker_Pick.f l 0 2 = some (r1, 1) := p1
 have q2 : lockagelaw06_Maker_Pick.f l 1 5 = some (r2, 2) := p2
 have q3 : lockagelaw06_Maker_Pick.f l 2 5 = some (r3, 3) := p3
 have q4 : lockagelaw06_Maker_Head.j0 20 l 3 (rdOf ByteArray.empty mMeths r2) (rdOf ByteArray.empty mTargs r3) 0 ⟨#[]⟩ (wrap64 (1 - r1)) = some (rdOf ByteArray.empty mMeths r2, rdOf ByteArray.empty mTargs r3, 0, ⟨#[]⟩, wrap64 (1 - r1), fs, (n : Int)) := h1
 clear p1 p2 p3 h1 hw hl
 rw [q1]
 simp only [Option.bind_some]
 rw [if_neg (by decide), q2]
 simp only [Option.bind_some]
 simp only [List.length_cons, List.length_nil, Nat.zero_add, Nat.reduceAdd]
 rw [if_pos a2, if_pos b2, q3]
 simp only [Option.bind_some]
 rw [if_pos a3, if_pos b3]
 simp only [mMeths, mTargs] at q4 ⊢
 rw [q4]
theorem Request_ev (l : List Int) (hl : l.length ≤ 281474976710656) (hw : ∀ x ∈ l, (Lit.int .u8 x).wf = true) :
  ∃ m t mi fs body, (∀ k, 20 ≤ k → lockagelaw16_Request.f k l = some (m, t, 0, ⟨#[]⟩, mi, fs, body)) ∧ m ∈ mMeths ∧ t ∈ mTargs ∧ (body = (⟨#[120]⟩ : ByteArray) ∨ body = (⟨#[]⟩ : ByteArray)) ∧ fs.length ≤ 6 ∧ MFs fs := by
 obtain ⟨m, t, mi, fs, n, hh, hm, ht, h2, h3, h4⟩ := Req_head l hl hw
 obtain ⟨r4, p4, a4, b4⟩ := Pick_ok l hl hw n 3 (by omega) (by omega)
 obtain ⟨r5, p5, a5, b5⟩ := Pick_ok l hl hw (n + 1) 6 (by omega) (by omega)
 refine ⟨(if r4 > 0 then (⟨#[71, 69, 84]⟩ : ByteArray) else m), t, mi, fs, (if r5 = 5 then (⟨#[120]⟩ : ByteArray) else (⟨#[]⟩ : ByteArray)), fun k hk => at_rounds (lockagelaw16_Request.mono l) hk ?_, ?_, ht, ?_, h2, h3⟩
 ·have q5 : lockagelaw06_Maker_Pick.f l (n : Int) 3 = some (r4, ((n + 1 : Nat) : Int)) := p4
  have q6 : lockagelaw06_Maker_Pick.f l ((n + 1 : Nat) : Int) 6 = some (r5, ((n + 1 + 1 : Nat) : Int)) := p5
  unfold lockagelaw16_Request.f
  rw [hh, Option.bind_some]
  dsimp only
  rw [q5, Option.bind_some]
  dsimp only
  rw [q6, Option.bind_some]
 ·split
  ·exact List.mem_cons_self
  ·exact hm
 ·split
  ·exact .inl rfl
  ·exact .inr rfl
end Go.Proofs.YthmallhjbhphgaaGreatDoor.P
namespace Go.Proofs.YthmallhjbhphgaaGreatDoor.P
open Go.RowKit Go.Proofs.YthmallhjbhphgaaGreatDoorW.PrintWords Go.Proofs.YthmallhjbhphgaaGreatDoorW.PrintLast Go.Proofs.YthmallhjbhphgaaGreatDoorW.PrintMore
theorem MFs.fitK {fs : List S37} (h : MFs fs) (hn : fs.length ≤ 2010) : FitK fs :=
 ⟨hn, fun x hx => by have h1 := (names_good _ (h x hx).1).2; have h2 := (vals_good _ (h x hx).2).2; omega⟩
theorem awake16 : lockagelaw16_awake.f 300 = some true := by kernel_rfl
theorem awake16_k (k : Nat) (hk : 300 ≤ k) : lockagelaw16_awake.f k = some true := at_rounds lockagelaw16_awake.mono hk awake16
end Go.Proofs.YthmallhjbhphgaaGreatDoor.P
namespace Go.Proofs.YthmallhjbhphgaaGreatDoor.P
open Go.RowKit Go.Proofs.YthmallhjbhphgaaGreatDoorW.PrintWords Go.Proofs.YthmallhjbhphgaaGreatDoorW.PrintLast Go.Proofs.YthmallhjbhphgaaGreatDoorW.PrintMore
theorem any_drop (l1 : List ByteArray) (f : ByteArray) (j : Nat) (h : j < l1.length) : (l1.drop j).any (H.sameName f) = (H.sameName f l1[j] || (l1.drop (j + 1)).any (H.sameName f)) := by
 rw [List.drop_eq_getElem_cons h, List.any_cons]
theorem RefDrop_in (B : Nat) (hB : B ≤ 9223372036854775806) (l : List S37) (l1 : List ByteArray) (hl : l.length < 4398046511104) (hl1 : l1.length < 8796093022208) (hn : ∀ x ∈ l, x.f0.size ≤ B) (hn1 : ∀ x ∈ l1, x.size ≤ B)
  (acc : List S37) (i : Nat) (hi : i < l.length) (hacc : acc.length ≤ i) (K : Nat) (hK : B + 1 ≤ K) (R : List S37)
  (hR : ∀ k, K ≤ k → lockageref05_Drop.l0 k l l1 (acc ++ (if keeps l1 l[i] = true then [l[i]] else [])) ((i + 1 : Nat) : Int) = some R) :
  ∀ (d j k : Nat) (b : Bool), l1.length - j = d → j ≤ l1.length → (b && !((l1.drop j).any (H.sameName l[i].f0))) = keeps l1 l[i] → d + 1 + K ≤ k → lockageref05_Drop.l1 k l l1 acc i b j = some R
 | d, j, 0, b, hd, hj, hb, hk => by omega
 | d, j, k + 1, b, hd, hj, hb, hk => by
  unfold lockageref05_Drop.l1
  have hx : rd_T37 l (i : Int) = l[i] := by simp [rd_T37, hi]
  have hs := hn l[i] (List.getElem_mem hi)
  by_cases hlt : j < l1.length
  ·have hy : rdOf ByteArray.empty l1 (j : Int) = l1[j] := by simp [rdOf, hlt]
   have hs1 := hn1 l1[j] (List.getElem_mem hlt)
   rw [if_pos (by omega), hx, hy, wrap_next j (by omega)]
   rw [any_drop _ _ _ hlt] at hb
   cases b with
   | false =>
    rw [if_neg (by decide)]
    exact RefDrop_in B hB l l1 hl hl1 hn hn1 acc i hi hacc K hK R hR (d - 1) (j + 1) k false (by omega) (by omega) (by simpa using hb) (by omega)
   | true =>
    rw [if_pos rfl, if_pos (by omega), if_pos (by omega), Low_ev _ (by omega) k (by omega)]
    simp only [Option.bind_some]
    rw [if_pos (by omega), Low_ev _ (by omega) k (by omega)]
    simp only [Option.bind_some]
    refine RefDrop_in B hB l l1 hl hl1 hn hn1 acc i hi hacc K hK R hR (d - 1) (j + 1) k _ (by omega) (by omega) ?_ (by omega)
    rw [← hb, toList_data, toList_data]
    show ((Sp.lower l[i].f0.data.toList != Sp.lower l1[j].data.toList) && _) = _
    unfold H.sameName
    have : (Sp.lower l[i].f0.data.toList != Sp.lower l1[j].data.toList) = !(Sp.lower l1[j].data.toList == Sp.lower l[i].f0.data.toList) := by
     rw [bne, Bool.beq_comm]
    rw [this]
    simp [Bool.not_or]
  ·rw [if_neg (by omega), hx]
   rw [List.drop_of_length_le (by omega)] at hb
   simp only [List.any_nil, Bool.not_false, Bool.and_true] at hb
   have h2 := hR k (by omega)
   rw [← hb] at h2
   cases b with
   | true =>
    rw [if_pos rfl, if_pos (by omega), if_pos (by omega), if_pos (by omega), wrap_next i (by omega)]
    exact h2
   | false =>
    rw [if_neg (by decide), wrap_next i (by omega)]
    simpa using h2
theorem RefDrop_at (B : Nat) (hB : B ≤ 9223372036854775806) (l : List S37) (l1 : List ByteArray) (hl : l.length < 4398046511104) (hl1 : l1.length < 8796093022208) (hn : ∀ x ∈ l, x.f0.size ≤ B) (hn1 : ∀ x ∈ l1, x.size ≤ B) :
  ∀ (d i k : Nat) (acc : List S37), l.length - i = d → i ≤ l.length → acc.length ≤ i → d * (l1.length + 2) + B + 2 ≤ k → lockageref05_Drop.l0 k l l1 acc i = some (acc ++ (l.drop i).filter (keeps l1))
 | d, i, 0, acc, hd, hi, hacc, hk => by omega
 | 0, i, k + 1, acc, hd, hi, hacc, hk => by
  unfold lockageref05_Drop.l0
  rw [if_neg (by omega), List.drop_of_length_le (by omega)]
  simp
 | d + 1, i, k + 1, acc, hd, hi, hacc, hk => by
  have hlt : i < l.length := by omega
  have hm : (d + 1) * (l1.length + 2) = d * (l1.length + 2) + (l1.length + 2) := Nat.succ_mul _ _
  unfold lockageref05_Drop.l0
  rw [if_pos (by omega)]
  have ed : l.drop i = l[i] :: l.drop (i + 1) := List.drop_eq_getElem_cons hlt
  have ef : acc ++ (l.drop i).filter (keeps l1) = (acc ++ (if keeps l1 l[i] = true then [l[i]] else [])) ++ (l.drop (i + 1)).filter (keeps l1) := by
   rw [ed, List.filter_cons]
   split <;> simp
  rw [ef]
  refine RefDrop_in B hB l l1 hl hl1 hn hn1 acc i hlt hacc (d * (l1.length + 2) + B + 2) (by omega) _ (fun k' hk' => ?_) l1.length 0 k true (by omega) (by omega) (by simp [keeps]) (by omega)
  refine RefDrop_at B hB l l1 hl hl1 hn hn1 d (i + 1) k' _ (by omega) (by omega) ?_ hk'
  split <;> simp <;> omega
theorem RefDrop_ev (B : Nat) (hB : B ≤ 9223372036854775806) (l : List S37) (l1 : List ByteArray) (hl : l.length < 4398046511104) (hl1 : l1.length < 8796093022208) (hn : ∀ x ∈ l, x.f0.size ≤ B) (hn1 : ∀ x ∈ l1, x.size ≤ B) (k : Nat) (hk : l.length * (l1.length + 2) + B + 2 ≤ k) :
  lockageref05_Drop.f k l l1 = some (l.filter (keeps l1)) := by
 unfold lockageref05_Drop.f
 have := RefDrop_at B hB l l1 hl hl1 hn hn1 l.length 0 k [] (by omega) (by omega) (by simp) hk
 simpa using this
end Go.Proofs.YthmallhjbhphgaaGreatDoor.P
namespace Go.Proofs.YthmallhjbhphgaaGreatDoor.P
open Go.RowKit Go.Proofs.YthmallhjbhphgaaGreatDoorW.PrintWords Go.Proofs.YthmallhjbhphgaaGreatDoorW.PrintLast Go.Proofs.YthmallhjbhphgaaGreatDoorW.PrintMore
def hostB : ByteArray := ⟨#[72, 111, 115, 116]⟩
def hostL : ByteArray := ⟨#[104, 111, 115, 116]⟩
def hostOf (fs : List S37) : ByteArray := rdOf ByteArray.empty (getS fs hostB ++ [(⟨#[]⟩ : ByteArray)]) 0
def keyOfB (m h p q : ByteArray) : ByteArray := joinB [m, ⟨(Sp.lower h.data.toList).toArray⟩, p ++ q] (⟨#[32]⟩ : ByteArray)
theorem hostOf_size {fs : List S37} (h : FitK fs) : (hostOf fs).size ≤ 2010 := by
 unfold hostOf
 have h2 := (h.get hostB).2
 cases e : getS fs hostB with
 | nil => decide
 | cons v l =>
  show v.size ≤ 2010
  exact h2 v (by rw [e]; exact List.mem_cons_self)
theorem join3_size (a b c d : ByteArray) : (joinB [a, b, c] d).size = a.size + d.size + b.size + d.size + c.size := by
 unfold joinB
 rw [mk_size]
 simp [Lib.join]
 omega
theorem key_Key_ev (m t : ByteArray) (st : Int) (rs : ByteArray) (mi : Int) {fs : List S37} (h : FitK fs) (body : ByteArray) (p q : ByteArray) (k : Nat) (hm : m.size ≤ 1000000) (hp : p.size ≤ 1000000) (hq : q.size ≤ 1000000) (hk : 3000 ≤ k) (hn : target_Normal.f k t = some (p, q, 0)) :
  key_Key.f k m t st rs mi fs body = some (keyOfB m (hostOf fs) p q, 0) := by
 have hfn := h.n
 have hh := hostOf_size h
 unfold key_Key.f
 rw [hn, Option.bind_some]
 dsimp only
 rw [if_pos rfl, show field_Get.f k fs (⟨#[72, 111, 115, 116]⟩ : ByteArray) = _ from field_Get_ev fs hostB (by omega) (by decide) (fun y hy => by have := (h.x y hy).1; omega) k (by omega), Option.bind_some, if_pos (by have := (h.get hostB).1; omega), Option.bind_some, if_pos (by rw [List.length_append, List.length_singleton]; omega),
  show field_Lower.f (rdOf ByteArray.empty (getS fs hostB ++ [(⟨#[]⟩ : ByteArray)]) 0) = _ from lower_f (a := hostOf fs) (by omega), Option.bind_some, if_pos (by omega)]
 unfold strings_Join.f
 have e : (joinB [m, ⟨(Sp.lower (hostOf fs).data.toList).toArray⟩, p ++ q] (⟨#[32]⟩ : ByteArray)).size ≤ 140737488355328 := by
  have hl : (⟨(Sp.lower (hostOf fs).data.toList).toArray⟩ : ByteArray).size = (hostOf fs).size := by rw [mk_size, Sp.lower_length, size_data]
  rw [join3_size, ByteArray.size_append, hl]
  have : (⟨#[32]⟩ : ByteArray).size = 1 := rfl
  omega
 rw [if_pos ⟨by simp, e⟩, Option.bind_some]
 rfl
theorem getS_app (a b : List S37) (n : ByteArray) : getS (a ++ b) n = getS a n ++ getS b n := by unfold getS; rw [List.filter_append, List.map_append]
theorem getS_dropped (fs : List S37) (n b : ByteArray) (h : Sp.lower n.data.toList = Sp.lower b.data.toList) : getS (fs.filter (keeps [b])) n = [] := by
 unfold getS
 rw [List.filter_filter]
 rw [List.map_eq_nil_iff, List.filter_eq_nil_iff]
 intro x hx
 unfold keeps H.sameName
 rw [h]
 simp
 exact fun e => e.symm
theorem FitK.app {a b : List S37} (ha : FitK a) (hb : FitK b) (hn : a.length + b.length ≤ 2010) : FitK (a ++ b) :=
 ⟨by rw [List.length_append]; omega, fun x hx => (List.mem_append.1 hx).elim (ha.x x) (hb.x x)⟩
theorem FitK.filter {a : List S37} (ha : FitK a) (p : S37 → Bool) : FitK (a.filter p) :=
 ⟨Nat.le_trans (List.length_filter_le _ _) ha.n, fun x hx => ha.x x (List.mem_filter.1 hx).1⟩
def tgA : ByteArray := ⟨#[47, 97, 47, 46, 47, 98, 47, 37, 55, 101, 63, 113]⟩
def tgB : ByteArray := ⟨#[47, 97, 47, 99, 47, 46, 46, 47, 98, 47, 126, 63, 113]⟩
def tgP : ByteArray := ⟨#[47, 97, 47, 98, 47, 126]⟩
def tgQ : ByteArray := ⟨#[63, 113]⟩
theorem tgA_ev (k : Nat) (hk : 100 ≤ k) : target_Normal.f k tgA = some (tgP, tgQ, 0) := at_rounds (target_Normal.mono tgA) hk (by kernel_rfl)
theorem tgB_ev (k : Nat) (hk : 100 ≤ k) : target_Normal.f k tgB = some (tgP, tgQ, 0) := at_rounds (target_Normal.mono tgB) hk (by kernel_rfl)
def getM : ByteArray := ⟨#[71, 69, 84]⟩
theorem Same_j0 (a2 : Int) (v1 n2 v2 : ByteArray) (hv1 : v1.size ≤ 100) (hv2 : v2.size ≤ 100) (hn2 : n2.size ≤ 100) (hl : Sp.lower n2.data.toList = Sp.lower hostB.data.toList) (ma ta : ByteArray) (sa : Int) (ra : ByteArray) (ia : Int) {fa : List S37} (Fa : FitK fa) (na : fa.length ≤ 10) (ba : ByteArray) (mb tb : ByteArray) (sb : Int) (rb : ByteArray) (ib : Int) {fb : List S37} (Fb : FitK fb) (nb : fb.length ≤ 10) (bb : ByteArray)
  (he : ((keyOfB getM v1 tgP tgQ).toList == (keyOfB getM v2 tgP tgQ).toList) = decide (Int.tmod a2 3 > 0)) (k : Nat) (hk : 10000 ≤ k) :
  lockagelaw16_KeySame.j0 (k + 1) a2 true [⟨hostB, v1⟩] [⟨n2, v2⟩] ma ta sa ra ia fa ba mb tb sb rb ib fb bb = some true := by
 have Ga := Fa.filter (keeps [hostL])
 have Gb := Fb.filter (keeps [hostL])
 have la : (fa.filter (keeps [hostL])).length ≤ 10 := Nat.le_trans (List.length_filter_le _ _) na
 have lb : (fb.filter (keeps [hostL])).length ≤ 10 := Nat.le_trans (List.length_filter_le _ _) nb
 have F1 : FitK ([(⟨hostB, v1⟩ : S37)]) := ⟨by simp, fun x hx => by rw [List.mem_singleton.1 hx]; exact ⟨by show hostB.size ≤ 2010; decide, by show v1.size ≤ 2010; omega⟩⟩
 have F2 : FitK ([(⟨n2, v2⟩ : S37)]) := ⟨by simp, fun x hx => by rw [List.mem_singleton.1 hx]; exact ⟨by show n2.size ≤ 2010; omega, by show v2.size ≤ 2010; omega⟩⟩
 have H1 := F1.app Ga (by rw [List.length_singleton]; omega)
 have H2 := Gb.app F2 (by rw [List.length_singleton]; omega)
 have g1 : hostOf ([(⟨hostB, v1⟩ : S37)] ++ fa.filter (keeps [hostL])) = v1 := by
  unfold hostOf
  rw [getS_app, getS_dropped fa hostB hostL (by decide +kernel)]
  have : getS [(⟨hostB, v1⟩ : S37)] hostB = [v1] := by unfold getS; rw [List.filter_cons_of_pos (by simp)]; rfl
  rw [this]
  rfl
 have g2 : hostOf (fb.filter (keeps [hostL]) ++ [(⟨n2, v2⟩ : S37)]) = v2 := by
  unfold hostOf
  rw [getS_app, getS_dropped fb hostB hostL (by decide +kernel)]
  have : getS [(⟨n2, v2⟩ : S37)] hostB = [v2] := by unfold getS; rw [List.filter_cons_of_pos (by simp [hl])]; rfl
  rw [this]
  rfl
 have mul1 : fa.length * (([hostL] : List ByteArray).length + 2) ≤ 10 * 3 := Nat.mul_le_mul na (by decide)
 have mul2 : fb.length * (([hostL] : List ByteArray).length + 2) ≤ 10 * 3 := Nat.mul_le_mul nb (by decide)
 have d1 := RefDrop_ev 5000 (by decide) fa [hostL] (by omega) (by decide) (fun x hx => by have := (Fa.x x hx).1; omega) (fun x hx => by rw [List.mem_singleton.1 hx]; decide) k (by omega)
 have d2 := RefDrop_ev 5000 (by decide) fb [hostL] (by omega) (by decide) (fun x hx => by have := (Fb.x x hx).1; omega) (fun x hx => by rw [List.mem_singleton.1 hx]; decide) k (by omega)
 have k1 := key_Key_ev getM tgA 0 ⟨#[]⟩ 1 H1 ba tgP tgQ k (by decide) (by decide) (by decide) (by omega) (tgA_ev k (by omega))
 have k2 := key_Key_ev getM tgB 0 ⟨#[]⟩ 0 H2 bb tgP tgQ k (by decide) (by decide) (by decide) (by omega) (tgB_ev k (by omega))
 rw [g1] at k1
 rw [g2] at k2
 rw [lockagelaw16_KeySame.j0, show lockageref05_Drop.f k fa [(⟨#[104, 111, 115, 116]⟩ : ByteArray)] = _ from d1, Option.bind_some, if_pos (by simp only [List.length_singleton]; omega), show lockageref05_Drop.f k fb [(⟨#[104, 111, 115, 116]⟩ : ByteArray)] = _ from d2, Option.bind_some, if_pos (by simp only [List.length_singleton]; omega),
  show key_Key.f k (⟨#[71, 69, 84]⟩ : ByteArray) (⟨#[47, 97, 47, 46, 47, 98, 47, 37, 55, 101, 63, 113]⟩ : ByteArray) 0 (⟨#[]⟩ : ByteArray) 1 ([⟨hostB, v1⟩] ++ fa.filter (keeps [hostL])) ba = _ from k1, Option.bind_some,
  show key_Key.f k (⟨#[71, 69, 84]⟩ : ByteArray) (⟨#[47, 97, 47, 99, 47, 46, 46, 47, 98, 47, 126, 63, 113]⟩ : ByteArray) 0 (⟨#[]⟩ : ByteArray) 0 (fb.filter (keeps [hostL]) ++ [⟨n2, v2⟩]) bb = _ from k2, Option.bind_some]
 dsimp only
 rw [if_pos rfl, if_pos rfl, if_pos rfl, he]
 simp
theorem KeySame_ok (l0 : List Int) (y0 : l0.length * 1 ≤ 140737488351232) (h0 : ∀ x ∈ l0, (Lit.int .u8 x).wf = true) (l1 : List Int) (y1 : l1.length * 1 ≤ 140737488351232) (h1 : ∀ x ∈ l1, (Lit.int .u8 x).wf = true) (a2 : Int) (w2 : (Lit.int .u8 a2).wf = true) :
  ∃ k, lockagelaw16_KeySame.f k l0 l1 a2 = some true := by
 obtain ⟨ma, ta, mia, fa, ba, ea, _, _, _, na, Ha⟩ := Request_ev l0 (by omega) h0
 obtain ⟨mb, tb, mib, fb, bb, eb, _, _, _, nb, Hb⟩ := Request_ev l1 (by omega) h1
 have Fa := Ha.fitK (by omega)
 have Fb := Hb.fitK (by omega)
 have ha2 : 0 ≤ a2 := by
  unfold Lit.wf at w2
  simp [IntKind.min, IntKind.max, IntKind.signed, IntKind.bits] at w2
  omega
 have ht : 0 ≤ Int.tmod a2 3 := Int.tmod_nonneg 3 ha2
 refine ⟨10001, ?_⟩
 unfold lockagelaw16_KeySame.f
 rw [awake16_k _ (by decide), Option.bind_some, if_pos rfl, ea _ (by decide), Option.bind_some, eb _ (by decide), Option.bind_some, Option.bind_some, Option.bind_some]
 dsimp only
 by_cases h : Int.tmod a2 3 = 0
 ·rw [if_pos h, if_pos (by decide)]
  exact Same_j0 a2 (⟨#[104, 46, 88]⟩ : ByteArray) (⟨#[72, 79, 83, 84]⟩ : ByteArray) (⟨#[111, 116, 104, 101, 114]⟩ : ByteArray) (by decide) (by decide) (by decide) (by decide +kernel) _ _ _ _ _ Fa (by omega) _ _ _ _ _ _ Fb (by omega) _ (by
   rw [h, show decide ((0 : Int) > 0) = false by decide]
   kernel_rfl) 10000 (Nat.le_refl _)
 ·rw [if_neg h]
  exact Same_j0 a2 (⟨#[104, 46, 88]⟩ : ByteArray) (⟨#[72, 79, 83, 84]⟩ : ByteArray) (⟨#[72, 46, 120]⟩ : ByteArray) (by decide) (by decide) (by decide) (by decide +kernel) _ _ _ _ _ Fa (by omega) _ _ _ _ _ _ Fb (by omega) _ (by
   rw [decide_eq_true (show Int.tmod a2 3 > 0 by omega)]
   kernel_rfl) 10000 (Nat.le_refl _)
end Go.Proofs.YthmallhjbhphgaaGreatDoor.P
