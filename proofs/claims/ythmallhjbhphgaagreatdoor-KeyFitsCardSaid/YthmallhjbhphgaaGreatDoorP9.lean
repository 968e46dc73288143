/- Several parts together: Plain facts about the plain functions of header fields: small letters, trimming, names, cutting; lists of bytes alone; What the printed functions of header fields come to: names, values, what a name has; plain Lean, no program; What the reference functions of header fields come to: small letters, what a name has; plain Lean, no program; What the reference function of small letters comes to; plain Lean, no program; What lockagelaw06.Made comes to: a right head of at most six fields, names and values from two lists; plain Lean, no program; What lockagelaw06.Made comes to where it makes an answer; plain Lean, no program; Staying open, in plain Lean: what frame.Stays comes to; What the functions of package key come to: plain Lean, no program; A request by numbers: what lockagelaw16.Request comes to; plain Lean, no program; The law KeyFits answers true; plain Lean, no program. -/
import Derived.Test.YthmallhjbhphgaaGreatDoorHZA
import Derived.Test.YthmallhjbhphgaaGreatDoorHZB
import Derived.Test.YthmallhjbhphgaaGreatDoorPx1
import Derived.Lib.LazyBuf
import Derived.Test.YthmallhjbhphgaaGreatDoorPx5
import Derived.Test.YthmallhjbhphgaaGreatDoorHZC
import Derived.OpenShut
import Derived.Test.YthmallhjbhphgaaGreatDoorPx2
import Derived.Test.YthmallhjbhphgaaGreatDoorPx4
import Derived.Test.YthmallhjbhphgaaGreatDoorPx18
set_option linter.unusedVariables false
set_option linter.unusedSimpArgs false
namespace Go.Proofs.YthmallhjbhphgaaGreatDoor.Sp
theorem lowC_idem (c : UInt8) : lowC (lowC c) = lowC c := by
 unfold lowC
 by_cases h : 65 ≤ c ∧ c ≤ 90
 ·have h1 : (decide (65 ≤ c) && decide (c ≤ 90)) = true := by simp [h]
  have h2 : ¬ (65 ≤ c + 32 ∧ c + 32 ≤ 90) := by
   obtain ⟨a, b⟩ := h
   rw [UInt8.le_iff_toNat_le] at a b
   rw [UInt8.le_iff_toNat_le, UInt8.le_iff_toNat_le, UInt8.toNat_add]
   simp at a b ⊢
   omega
  simp only [h1, if_true]
  rw [if_neg (by simpa using h2)]
 ·have h1 : (decide (65 ≤ c) && decide (c ≤ 90)) = false := by simpa using h
  simp only [h1, Bool.false_eq_true, if_false]
theorem lower_idem (l : List UInt8) : lower (lower l) = lower l := by
 unfold lower
 rw [List.map_map]
 exact List.map_congr_left fun c _ => lowC_idem c
theorem lower_length (l : List UInt8) : (lower l).length = l.length := by unfold lower; rw [List.length_map]

theorem trim_length (l : List UInt8) : (trim l).length ≤ l.length := by
 unfold trim Lib.trimS Lib.trimLeftS Lib.trimRightS
 have h1 := (List.dropWhile_sublist (l := (l.reverse.dropWhile (([32, 9] : List UInt8).contains ·)).reverse) (([32, 9] : List UInt8).contains ·)).length_le
 have h2 := (List.dropWhile_sublist (l := l.reverse) (([32, 9] : List UInt8).contains ·)).length_le
 rw [List.length_reverse] at h1 h2
 exact Nat.le_trans h1 h2
end Go.Proofs.YthmallhjbhphgaaGreatDoor.Sp
namespace Go.Proofs.YthmallhjbhphgaaGreatDoor.P
open Go.RowKit Go.Proofs.YthmallhjbhphgaaGreatDoorW.PrintWords Go.Proofs.YthmallhjbhphgaaGreatDoorW.PrintLast Go.Proofs.YthmallhjbhphgaaGreatDoorW.PrintMore

theorem size_data (s : ByteArray) : s.data.toList.length = s.size := by rw [Array.length_toList]; rfl
theorem lower_f {a : ByteArray} (h : a.size ≤ 9223372036854775806) : field_Lower.f a = some ⟨(Sp.lower a.data.toList).toArray⟩ := by unfold field_Lower.f; rw [if_pos h]
theorem mk_size (l : List UInt8) : (⟨l.toArray⟩ : ByteArray).size = l.length := by show l.toArray.size = _; rw [List.size_toArray]
theorem toList_data (a : ByteArray) : a.toList = a.data.toList := ByteArray.toList_eq a
def getS (l : List S37) (a : ByteArray) : List ByteArray := (l.filter fun x => Sp.lower x.f0.data.toList == Sp.lower a.data.toList).map (·.f1)
theorem getS_length (l : List S37) (a : ByteArray) : (getS l a).length ≤ l.length := by
 unfold getS
 rw [List.length_map]
 exact List.length_filter_le _ _
theorem field_Get_at (l : List S37) (a : ByteArray) (hl : l.length < 4398046511104) (ha : a.size ≤ 9223372036854775806) (hn : ∀ x ∈ l, x.f0.size ≤ 9223372036854775806) :
  ∀ (d i k : Nat) (acc : List ByteArray), l.length - i = d → i ≤ l.length → acc.length ≤ i → d + 1 ≤ k → field_Get.l0 k a acc l (l.length : Int) i = some (acc ++ getS (l.drop i) a)
 | d, i, 0, acc, hd, hi, hacc, hk => by omega
 | d, i, k + 1, acc, hd, hi, hacc, hk => by
  unfold field_Get.l0
  by_cases hlt : i < l.length
  ·rw [if_pos (by omega), if_pos (by omega), if_pos (by omega)]
   have hx : rd_T37 l (i : Int) = l[i] := by simp [rd_T37, hlt]
   have hs := hn l[i] (List.getElem_mem hlt)
   have ew : wrap64 ((i : Int) + 1) = ((i + 1 : Nat) : Int) := by unfold wrap64; omega
   rw [hx, lower_f hs, lower_f ha, ew]
   simp only [Option.bind_some]
   have ed : l.drop i = l[i] :: l.drop (i + 1) := List.drop_eq_getElem_cons hlt
   have eg : getS (l.drop i) a = (if (Sp.lower l[i].f0.data.toList == Sp.lower a.data.toList) = true then [l[i].f1] else []) ++ getS (l.drop (i + 1)) a := by
    rw [ed]
    unfold getS
    rw [List.filter_cons]
    split <;> simp
   rw [eg]
   by_cases c : Sp.lower l[i].f0.data.toList = Sp.lower a.data.toList
   ·rw [if_pos (by rw [toList_data, toList_data]; simpa using c), if_pos (by omega), if_pos (by simpa using c)]
    rw [field_Get_at l a hl ha hn (d - 1) (i + 1) k _ (by omega) (by omega) (by simp; omega) (by omega), List.append_assoc]
   ·rw [if_neg (by rw [toList_data, toList_data]; simpa using c), if_neg (by simpa using c)]
    rw [field_Get_at l a hl ha hn (d - 1) (i + 1) k _ (by omega) (by omega) (by omega) (by omega), List.nil_append]
  ·rw [if_neg (by omega), List.drop_of_length_le (by omega)]
   simp [getS]
theorem field_Get_ev (l : List S37) (a : ByteArray) (hl : l.length < 4398046511104) (ha : a.size ≤ 9223372036854775806) (hn : ∀ x ∈ l, x.f0.size ≤ 9223372036854775806) (k : Nat) (hk : l.length + 1 ≤ k) :
  field_Get.f k l a = some (getS l a) := by
 unfold field_Get.f
 have := field_Get_at l a hl ha hn l.length 0 k [] (by omega) (by omega) (by simp) hk
 simpa using this
end Go.Proofs.YthmallhjbhphgaaGreatDoor.P
namespace Go.Proofs.YthmallhjbhphgaaGreatDoor.P
open Go.RowKit Go.Proofs.YthmallhjbhphgaaGreatDoorW.PrintWords Go.Proofs.YthmallhjbhphgaaGreatDoorW.PrintLast Go.Proofs.YthmallhjbhphgaaGreatDoorW.PrintMore

end Go.Proofs.YthmallhjbhphgaaGreatDoor.P
namespace Go.Proofs.YthmallhjbhphgaaGreatDoor.P
open Go.RowKit Go.Proofs.YthmallhjbhphgaaGreatDoorW.PrintWords Go.Proofs.YthmallhjbhphgaaGreatDoorW.PrintLast Go.Proofs.YthmallhjbhphgaaGreatDoorW.PrintMore

end Go.Proofs.YthmallhjbhphgaaGreatDoor.P
namespace Go.Proofs.YthmallhjbhphgaaGreatDoor.P
open Go.RowKit Go.Proofs.YthmallhjbhphgaaGreatDoorW.PrintWords Go.Proofs.YthmallhjbhphgaaGreatDoorW.PrintLast Go.Proofs.YthmallhjbhphgaaGreatDoorW.PrintMore
def mNames : List ByteArray := [(⟨#[72, 111, 115, 116]⟩ : ByteArray), (⟨#[67, 111, 110, 116, 101, 110, 116, 45, 76, 101, 110, 103, 116, 104]⟩ : ByteArray), (⟨#[84, 114, 97, 110, 115, 102, 101, 114, 45, 69, 110, 99, 111, 100, 105, 110, 103]⟩ : ByteArray), (⟨#[67, 111, 110, 110, 101, 99, 116, 105, 111, 110]⟩ : ByteArray), (⟨#[67, 111, 111, 107, 105, 101]⟩ : ByteArray), (⟨#[86, 97, 114, 121]⟩ : ByteArray), (⟨#[65]⟩ : ByteArray), (⟨#[97, 99, 99, 101, 112, 116]⟩ : ByteArray), (⟨#[82, 97, 110, 103, 101]⟩ : ByteArray), (⟨#[67, 97, 99, 104, 101, 45, 67, 111, 110, 116, 114, 111, 108]⟩ : ByteArray), (⟨#[65, 117, 116, 104, 111, 114, 105, 122, 97, 116, 105, 111, 110]⟩ : ByteArray), (⟨#[88, 45, 70, 111, 114, 119, 97, 114, 100, 101, 100, 45, 70, 111, 114]⟩ : ByteArray), (⟨#[75, 101, 101, 112, 45, 65, 108, 105, 118, 101]⟩ : ByteArray)]
def mVals : List ByteArray := [(⟨#[]⟩ : ByteArray), (⟨#[51]⟩ : ByteArray), (⟨#[99, 104, 117, 110, 107, 101, 100]⟩ : ByteArray), (⟨#[99, 108, 111, 115, 101]⟩ : ByteArray), (⟨#[107, 101, 101, 112, 45, 97, 108, 105, 118, 101, 44, 32, 65]⟩ : ByteArray), (⟨#[97, 44, 32, 98]⟩ : ByteArray), (⟨#[110, 111, 45, 115, 116, 111, 114, 101]⟩ : ByteArray), (⟨#[48]⟩ : ByteArray), (⟨#[120]⟩ : ByteArray), (⟨#[65, 99, 99, 101, 112, 116]⟩ : ByteArray), (⟨#[97, 99, 99, 101, 112, 116, 44, 32, 65]⟩ : ByteArray)]
def mMeths : List ByteArray := [(⟨#[71, 69, 84]⟩ : ByteArray), (⟨#[80, 79, 83, 84]⟩ : ByteArray), (⟨#[72, 69, 65, 68]⟩ : ByteArray), (⟨#[80, 85, 84]⟩ : ByteArray), (⟨#[120, 45, 121]⟩ : ByteArray)]
def mTargs : List ByteArray := [(⟨#[47]⟩ : ByteArray), (⟨#[47, 97, 47, 98]⟩ : ByteArray), (⟨#[47, 97, 63, 120, 61, 49]⟩ : ByteArray), (⟨#[42]⟩ : ByteArray), (⟨#[47, 37, 52, 49]⟩ : ByteArray)]
theorem rdOf_mem {l : List ByteArray} {i : Int} (h0 : 0 ≤ i) (h : i < (l.length : Int)) : rdOf ByteArray.empty l i ∈ l := by
 have hl : i.toNat < l.length := by omega
 unfold rdOf
 rw [List.getD_eq_getElem?_getD, List.getElem?_eq_getElem hl]
 exact List.getElem_mem hl
theorem Pick_ok (l : List Int) (hl : l.length ≤ 281474976710656) (hw : ∀ x ∈ l, (Lit.int .u8 x).wf = true) (i n : Nat) (hi : i ≤ 1000) (hn : 0 < n) :
  ∃ r : Int, lockagelaw06_Maker_Pick.f l i n = some (r, ((i + 1 : Nat) : Int)) ∧ 0 ≤ r ∧ r < n := by
 have e1 : wrap64 ((i : Int) + 1) = ((i + 1 : Nat) : Int) := by unfold wrap64; omega
 have e2 : wrap64 (((i + 1 : Nat) : Int) - 1) = (i : Int) := by unfold wrap64; omega
 unfold lockagelaw06_Maker_Pick.f
 rw [e1, e2]
 clear e1 e2
 by_cases h : ((i + 1 : Nat) : Int) > (l.length : Int)
 ·rw [if_pos h]
  exact ⟨0, rfl, by omega, by omega⟩
 ·have hx : rd l (i : Int) = l[i]'(by omega) := by simp [rd, show i < l.length by omega]
  have hb := bounds_u8 (hw (l[i]'(by omega)) (List.getElem_mem _))
  have ex : wrap64 (l[i]'(by omega)) = l[i]'(by omega) := by
   generalize l[i]'(by omega) = v at hb
   unfold wrap64; omega
  rw [if_neg h, if_pos (by omega), if_pos (by omega), if_neg (by omega), hx, ex]
  exact ⟨_, rfl, Int.tmod_nonneg _ hb.1, Int.tmod_lt_of_pos _ (by omega)⟩
def MFs (l : List S37) : Prop := ∀ x ∈ l, x.f0 ∈ mNames ∧ x.f1 ∈ mVals
theorem Head_l0 (l : List Int) (hl : l.length ≤ 281474976710656) (hw : ∀ x ∈ l, (Lit.int .u8 x).wf = true) (m t s : ByteArray) (st mi : Int) (d : Nat) :
  ∀ (i k : Nat) (acc : List S37), d ≤ 6 → acc.length + d ≤ 6 → i + 2 * d ≤ 900 → d + 1 ≤ k → MFs acc →
   ∃ fs j, lockagelaw06_Maker_Head.l0 k (d : Int) l (i : Int) m t st s mi acc = some (m, t, st, s, mi, fs, j) ∧ fs.length ≤ 6 ∧ MFs fs := by
 induction d with
 | zero =>
  intro i k acc hd ha hi hk hm
  obtain ⟨k, rfl⟩ : ∃ j, k = j + 1 := ⟨k - 1, by omega⟩
  unfold lockagelaw06_Maker_Head.l0
  rw [if_neg (by omega)]
  exact ⟨acc, _, rfl, by omega, hm⟩
 | succ d ih =>
  intro i k acc hd ha hi hk hm
  obtain ⟨k, rfl⟩ : ∃ j, k = j + 1 := ⟨k - 1, by omega⟩
  obtain ⟨r1, p1, a1, b1⟩ := Pick_ok l hl hw i 13 (by omega) (by omega)
  obtain ⟨r2, p2, a2, b2⟩ := Pick_ok l hl hw (i + 1) 11 (by omega) (by omega)
  have hm2 : MFs (acc ++ [(⟨rdOf ByteArray.empty mNames r1, rdOf ByteArray.empty mVals r2⟩ : S37)]) := by
   intro x hx
   rcases List.mem_append.1 hx with hx | hx
   ·exact hm x hx
   ·obtain rfl := List.mem_singleton.1 hx
    exact ⟨rdOf_mem a1 b1, rdOf_mem a2 b2⟩
  obtain ⟨fs, j, h1, h2, h3⟩ := ih (i + 2) k _ (by omega) (by simp; omega) (by omega) (by omega) hm2
  refine ⟨fs, j, ?_, h2, h3⟩
  have q1 : lockagelaw06_Maker_Pick.f l (i : Int) 13 = some (r1, ((i + 1 : Nat) : Int)) := p1
  have q2 : lockagelaw06_Maker_Pick.f l ((i + 1 : Nat) : Int) 11 = some (r2, ((i + 2 : Nat) : Int)) := p2
  have e1 : wrap64 (((d + 1 : Nat) : Int) - 1) = (d : Int) := by unfold wrap64; omega
  have c1 : ((d + 1 : Nat) : Int) > 0 := by omega
  have c2 : acc.length < 4398046511104 := by omega
  clear p1 p2 hm2 ih hm hi hk ha hd
  simp only [mNames, mVals] at h1
  unfold lockagelaw06_Maker_Head.l0
  simp only [Option.bind_some, List.length_cons, List.length_nil, Nat.zero_add, Nat.reduceAdd, if_pos c1, q1, q2, if_pos a1, if_pos b1, if_pos a2, if_pos b2, if_pos c2, e1]
  exact h1
theorem Head_j0 (l : List Int) (hl : l.length ≤ 281474976710656) (hw : ∀ x ∈ l, (Lit.int .u8 x).wf = true) (m t s : ByteArray) (st mi : Int) (i k : Nat) (hi : i ≤ 100) (hk : 20 ≤ k) :
  ∃ fs j, lockagelaw06_Maker_Head.j0 k l (i : Int) m t st s mi = some (m, t, st, s, mi, fs, j) ∧ fs.length ≤ 6 ∧ MFs fs := by
 obtain ⟨k, rfl⟩ : ∃ j, k = j + 1 := ⟨k - 1, by omega⟩
 obtain ⟨r, p, a, b⟩ := Pick_ok l hl hw i 7 (by omega) (by omega)
 obtain ⟨d, rfl⟩ := Int.eq_ofNat_of_zero_le a
 obtain ⟨fs, j, h1, h2, h3⟩ := Head_l0 l hl hw m t s st mi d (i + 1) k [] (by omega) (by simp; omega) (by omega) (by omega) (fun x hx => by cases hx)
 refine ⟨fs, j, ?_, h2, h3⟩
 unfold lockagelaw06_Maker_Head.j0
 dsimp only
 have q : lockagelaw06_Maker_Pick.f l (i : Int) 7 = some ((d : Int), ((i + 1 : Nat) : Int)) := p
 rw [q]
 simp only [Option.bind_some]
 exact h1
theorem names_good : ∀ m ∈ mNames, Sp.nameB m.data.toList = true ∧ m.size ≤ 100 := by
 have h : (mNames.all fun m => Sp.nameB m.data.toList && decide (m.size ≤ 100)) = true := by kernel_rfl
 intro m hm
 have := List.all_eq_true.1 h m hm
 simpa using this
theorem vals_good : ∀ m ∈ mVals, Sp.valB m.data.toList = true ∧ m.size ≤ 100 := by
 have h : (mVals.all fun m => Sp.valB m.data.toList && decide (m.size ≤ 100)) = true := by kernel_rfl
 intro m hm
 have := List.all_eq_true.1 h m hm
 simpa using this
end Go.Proofs.YthmallhjbhphgaaGreatDoor.P
namespace Go.Proofs.YthmallhjbhphgaaGreatDoor.P
open Go.RowKit Go.Proofs.YthmallhjbhphgaaGreatDoorW.PrintWords Go.Proofs.YthmallhjbhphgaaGreatDoorW.PrintLast Go.Proofs.YthmallhjbhphgaaGreatDoorW.PrintMore
def mStats : List Int := [200, 404, 304, 204, 100, 599, 503]
def mReas : List ByteArray := [(⟨#[79, 75]⟩ : ByteArray), (⟨#[]⟩ : ByteArray), (⟨#[78, 111, 116, 32, 70, 111, 117, 110, 100]⟩ : ByteArray), (⟨#[97, 9, 98]⟩ : ByteArray)]
theorem rd_mem {l : List Int} {i : Int} (h0 : 0 ≤ i) (h : i < (l.length : Int)) : rd l i ∈ l := by
 have hl : i.toNat < l.length := by omega
 unfold rd
 rw [List.getD_eq_getElem?_getD, List.getElem?_eq_getElem hl]
 exact List.getElem_mem hl
theorem Made_true (l : List Int) (hl : l.length ≤ 281474976710656) (hw : ∀ x ∈ l, (Lit.int .u8 x).wf = true) :
  ∃ st s mi fs, (∀ k, 20 ≤ k → lockagelaw06_Made.f k l true = some (⟨#[]⟩, ⟨#[]⟩, st, s, mi, fs)) ∧ st ∈ mStats ∧ s ∈ mReas ∧ (mi = 0 ∨ mi = 1) ∧ fs.length ≤ 6 ∧ MFs fs := by
 obtain ⟨r1, p1, a1, b1⟩ := Pick_ok l hl hw 0 2 (by omega) (by omega)
 obtain ⟨r2, p2, a2, b2⟩ := Pick_ok l hl hw 1 7 (by omega) (by omega)
 obtain ⟨r3, p3, a3, b3⟩ := Pick_ok l hl hw 2 4 (by omega) (by omega)
 obtain ⟨fs, j, h1, h2, h3⟩ := Head_j0 l hl hw ⟨#[]⟩ ⟨#[]⟩ (rdOf ByteArray.empty mReas r3) (rd mStats r2) (wrap64 (1 - r1)) 3 20 (by omega) (by omega)
 refine ⟨rd mStats r2, rdOf ByteArray.empty mReas r3, wrap64 (1 - r1), fs, fun k hk => at_rounds (lockagelaw06_Made.mono l true) hk ?_, rd_mem a2 b2, rdOf_mem a3 b3, ?_, h2, h3⟩
 ·unfold lockagelaw06_Made.f lockagelaw06_Maker_Head.f
  have q1 : lockagelaw06_Maker_Pick.f l 0 2 = some (r1, 1) := p1
  have q2 : lockagelaw06_Maker_Pick.f l 1 7 = some (r2, 2) := p2
  have q3 : lockagelaw06_Maker_Pick.f l 2 4 = some (r3, 3) := p3
  have q4 : lockagelaw06_Maker_Head.j0 20 l 3 ⟨#[]⟩ ⟨#[]⟩ (rd mStats r2) (rdOf ByteArray.empty mReas r3) (wrap64 (1 - r1)) = some (⟨#[]⟩, ⟨#[]⟩, rd mStats r2, rdOf ByteArray.empty mReas r3, wrap64 (1 - r1), fs, j) := h1
  rw [q1]
  simp only [Option.bind_some]
  rw [if_pos trivial, q2]
  simp only [Option.bind_some, List.length_cons, List.length_nil, Nat.zero_add, Nat.reduceAdd]
  rw [if_pos a2, if_pos b2, q3]
  simp only [Option.bind_some]
  rw [if_pos a3, if_pos b3]
  simp only [mStats, mReas] at q4
  rw [q4]
  rfl
 ·have : r1 = 0 ∨ r1 = 1 := by omega
  rcases this with rfl | rfl
  ·exact .inr (by unfold wrap64; omega)
  ·exact .inl (by unfold wrap64; omega)
end Go.Proofs.YthmallhjbhphgaaGreatDoor.P
namespace Go.Proofs.YthmallhjbhphgaaGreatDoor.P
open Go.RowKit Go.Proofs.YthmallhjbhphgaaGreatDoorW.PrintWords Go.Proofs.YthmallhjbhphgaaGreatDoorW.PrintLast Go.Proofs.YthmallhjbhphgaaGreatDoorW.PrintMore
def hasT (l : List ByteArray) (c : List UInt8) : Bool := l.any fun x => c == x.toList
theorem hasT_drop (l : List ByteArray) (c : List UInt8) (j : Nat) (h : j < l.length) : hasT (l.drop j) c = (c == l[j].toList || hasT (l.drop (j + 1)) c) := by
 unfold hasT
 rw [List.drop_eq_getElem_cons h, List.any_cons]
theorem rdOf_at {l : List ByteArray} {j : Nat} (h : j < l.length) : rdOf ByteArray.empty l (j : Int) = l[j] := by simp [rdOf, h]
theorem wrap_up (n : Nat) (h : n < 8796093022208) : wrap64 ((n : Int) + 1) = ((n + 1 : Nat) : Int) := by unfold wrap64; omega
theorem Index_at (l : List ByteArray) (a : ByteArray) (hl : l.length < 8796093022208) (d : Nat) :
  ∀ (i k : Nat), l.length - i = d → d + 1 ≤ k → ∃ r : Int, slices_Index_string_string.l0 k l a (l.length : Int) i = some r ∧ decide (r ≥ 0) = hasT (l.drop i) a.toList := by
 induction d with
 | zero =>
  intro i k hd hk
  obtain ⟨k, rfl⟩ : ∃ j, k = j + 1 := ⟨k - 1, by omega⟩
  unfold slices_Index_string_string.l0
  rw [if_neg (by omega), List.drop_of_length_le (by omega)]
  exact ⟨-1, rfl, rfl⟩
 | succ d ih =>
  intro i k hd hk
  obtain ⟨k, rfl⟩ : ∃ j, k = j + 1 := ⟨k - 1, by omega⟩
  have hi : i < l.length := by omega
  unfold slices_Index_string_string.l0
  rw [if_pos (by omega), if_pos (by omega), if_pos (by omega), rdOf_at hi, hasT_drop _ _ _ hi]
  by_cases c : a.toList = l[i].toList
  ·rw [if_pos c]
   refine ⟨_, rfl, ?_⟩
   rw [c]
   simp
  ·rw [if_neg c, wrap_up i (by omega)]
   obtain ⟨r, h1, h2⟩ := ih (i + 1) k (by omega) (by omega)
   refine ⟨r, h1, ?_⟩
   rw [h2]
   simp [c]
theorem Contains_ev (l : List ByteArray) (a : ByteArray) (hl : l.length < 8796093022208) (k : Nat) (hk : l.length + 1 ≤ k) : slices_Contains_string_string.f k l a = some (hasT l a.toList) := by
 obtain ⟨r, h1, h2⟩ := Index_at l a hl l.length 0 k (by omega) hk
 unfold slices_Contains_string_string.f slices_Index_string_string.f
 rw [show slices_Index_string_string.l0 k l a (l.length : Int) 0 = some r from h1]
 simp only [Option.bind_some]
 rw [h2]
 rfl
end Go.Proofs.YthmallhjbhphgaaGreatDoor.P
namespace Go.Proofs.YthmallhjbhphgaaGreatDoor.P
open Go.RowKit Go.Proofs.YthmallhjbhphgaaGreatDoorW.PrintWords Go.Proofs.YthmallhjbhphgaaGreatDoorW.PrintLast Go.Proofs.YthmallhjbhphgaaGreatDoorW.PrintMore
structure FitK (fs : List S37) : Prop where
 n : fs.length ≤ 2010
 x : ∀ x ∈ fs, x.f0.size ≤ 2010 ∧ x.f1.size ≤ 2010
theorem getK_mem {fs : List S37} {a v : ByteArray} (h : v ∈ getS fs a) : ∃ x ∈ fs, v = x.f1 := by
 unfold getS at h
 obtain ⟨x, hx, rfl⟩ := List.mem_map.1 h
 exact ⟨x, (List.mem_filter.1 hx).1, rfl⟩
theorem FitK.get {fs : List S37} (h : FitK fs) (a : ByteArray) : (getS fs a).length ≤ 2010 ∧ ∀ v ∈ getS fs a, v.size ≤ 2010 := by
 refine ⟨Nat.le_trans (getS_length _ _) h.n, fun v hv => ?_⟩
 obtain ⟨x, hx, rfl⟩ := getK_mem hv
 exact (h.x x hx).2
theorem partsK_le (c : UInt8) : ∀ (l p : List UInt8), p ∈ Sp.parts c l → p.length ≤ l.length
 | [], p, h => by
  simp [Sp.parts] at h
  simp [h]
 | b :: l, p, h => by
  rw [Sp.parts] at h
  split at h
  ·rcases List.mem_cons.1 h with rfl | h
   ·simp
   ·have := partsK_le c l p h; simp; omega
  ·split at h
   ·rename_i e
    have : p = [b] := by simpa using h
    simp [this]
   ·rename_i q r e
    rcases List.mem_cons.1 h with rfl | h
    ·have := partsK_le c l q (by rw [e]; exact List.mem_cons_self)
     simp; omega
    ·have := partsK_le c l p (by rw [e]; exact List.mem_cons_of_mem _ h)
     simp; omega
theorem itemK_size (v x : ByteArray) (h : x ∈ itemsB v) : x.size ≤ v.size := by
 unfold itemsB Sp.items at h
 obtain ⟨l, hl, rfl⟩ := List.mem_map.1 h
 have h2 := (List.mem_filter.1 hl).1
 obtain ⟨p, hp, rfl⟩ := List.mem_map.1 h2
 have h3 := partsK_le 44 _ p hp
 have h4 := Sp.trim_length p
 have h5 := Sp.lower_length (Sp.trim p)
 show (⟨_⟩ : ByteArray).size ≤ _
 rw [mk_size]
 rw [size_data] at h3
 omega
theorem itemK_low (v x : ByteArray) (h : x ∈ itemsB v) : Sp.lower x.data.toList = x.data.toList := by
 unfold itemsB Sp.items at h
 obtain ⟨l, hl, rfl⟩ := List.mem_map.1 h
 have h2 := (List.mem_filter.1 hl).1
 obtain ⟨p, hp, rfl⟩ := List.mem_map.1 h2
 show Sp.lower (Sp.lower (Sp.trim p)) = Sp.lower (Sp.trim p)
 exact Sp.lower_idem _
theorem flatK_len (B : Nat) : ∀ g : List ByteArray, (∀ v ∈ g, v.size ≤ B) → (g.flatMap itemsB).length ≤ g.length * (B + 1)
 | [], _ => by simp
 | v :: g, h => by
  have h1 := flatK_len B g (fun x hx => h x (List.mem_cons_of_mem _ hx))
  have h2 := items_le v
  have h3 := h v List.mem_cons_self
  rw [List.flatMap_cons, List.length_append, List.length_cons, Nat.succ_mul]
  omega
def itemsN (fs : List S37) (a : ByteArray) : List ByteArray := (getS fs a).flatMap itemsB
theorem FitK.len {fs : List S37} (h : FitK fs) (a : ByteArray) : (itemsN fs a).length ≤ 4042110 := by
 obtain ⟨h1, h2⟩ := h.get a
 have h3 := flatK_len 2010 _ h2
 have h4 : (getS fs a).length * (2010 + 1) ≤ 2010 * 2011 := Nat.mul_le_mul h1 (Nat.le_refl _)
 unfold itemsN
 omega
theorem FitK.item {fs : List S37} (h : FitK fs) (a x : ByteArray) (hx : x ∈ itemsN fs a) : x.size ≤ 2010 ∧ Sp.lower x.data.toList = x.data.toList := by
 unfold itemsN at hx
 obtain ⟨v, hv, hx⟩ := List.mem_flatMap.1 hx
 have := (h.get a).2 v hv
 have := itemK_size v x hx
 exact ⟨by omega, itemK_low v x hx⟩
theorem itemsK_f {v : ByteArray} (h : v.size ≤ 4294967280) : field_Items.f v = some (itemsB v) := by unfold field_Items.f; rw [if_pos h]
theorem key_items_l0 (g : List ByteArray) (hg : ∀ v ∈ g, v.size ≤ 4294967280) (hl : g.length < 4398046511104) :
  ∀ (d i k : Nat) (acc : List ByteArray), g.length - i = d → i ≤ g.length → acc.length + ((g.drop i).flatMap itemsB).length < 8796093022208 → d + 1 ≤ k → key_items.l0 k acc g (g.length : Int) i = some (acc ++ (g.drop i).flatMap itemsB)
 | d, i, 0, acc, hd, hi, ha, hk => by omega
 | d, i, k + 1, acc, hd, hi, ha, hk => by
  unfold key_items.l0
  by_cases hlt : i < g.length
  ·have ed : g.drop i = g[i] :: g.drop (i + 1) := List.drop_eq_getElem_cons hlt
   rw [ed, List.flatMap_cons, List.length_append] at ha
   have hx : rdOf ByteArray.empty g (i : Int) = g[i] := by simp [rdOf, hlt]
   rw [if_pos (by omega), if_pos (by omega), if_pos (by omega), hx, itemsK_f (hg _ (List.getElem_mem hlt))]
   simp only [Option.bind_some]
   rw [if_pos (by omega), wrap_up i (by omega), key_items_l0 g hg hl (d - 1) (i + 1) k _ (by omega) (by omega) (by rw [List.length_append]; omega) (by omega), ed, List.flatMap_cons, List.append_assoc]
  ·rw [if_neg (by omega), List.drop_of_length_le (by omega)]
   simp
theorem key_items_ev {fs : List S37} (h : FitK fs) (a : ByteArray) (ha : a.size ≤ 5000) (k : Nat) (hk : 3000 ≤ k) : key_items.f k fs a = some (itemsN fs a) := by
 have hn := h.n
 obtain ⟨h1, h2⟩ := h.get a
 have h3 := h.len a
 unfold itemsN at h3
 unfold key_items.f
 rw [field_Get_ev fs a (by omega) (by omega) (fun x hx => by have := (h.x x hx).1; omega) k (by omega)]
 simp only [Option.bind_some]
 have := key_items_l0 (getS fs a) (fun v hv => by have := h2 v hv; omega) (by omega) (getS fs a).length 0 k [] (Nat.sub_zero _) (Nat.zero_le _) (by rw [List.drop_zero]; simp only [List.length_nil]; omega) (by omega)
 rw [List.drop_zero, List.nil_append] at this
 exact this
theorem anyO_some (p : ByteArray → Bool) : ∀ l : List ByteArray, anyO (fun x => some (p x)) l = some (l.any p)
 | [] => rfl
 | x :: l => by
  unfold anyO
  rw [Option.bind_some, anyO_some p l, List.any_cons]
  cases p x <;> rfl
theorem anyO_congr {f g : ByteArray → Option Bool} : ∀ l : List ByteArray, (∀ x ∈ l, f x = g x) → anyO f l = anyO g l
 | [], _ => rfl
 | x :: l, h => by
  unfold anyO
  rw [h x List.mem_cons_self, anyO_congr l (fun y hy => h y (List.mem_cons_of_mem _ hy))]
def directsS (fs : List S37) (ns : List ByteArray) : Bool := (itemsN fs ccB).any fun x => hasT ns x.toList
theorem key_directs_ev {fs : List S37} (h : FitK fs) (ns : List ByteArray) (hn : ns.length ≤ 100) (k : Nat) (hk : 3000 ≤ k) : key_directs.f k fs ns = some (directsS fs ns) := by
 unfold key_directs.f
 rw [show key_items.f k fs (⟨#[67, 97, 99, 104, 101, 45, 67, 111, 110, 116, 114, 111, 108]⟩ : ByteArray) = _ from key_items_ev h ccB (by decide) k hk, Option.bind_some, anyO_congr (g := fun x => some (hasT ns x.toList)) _ (fun x hx => Contains_ev ns x (by omega) k (by omega)), anyO_some]
 rfl
def varyB : ByteArray := ⟨#[86, 97, 114, 121]⟩
def varyR (fs : List S37) : List ByteArray × Bool := if ([42] : List UInt8) ∈ (itemsN fs varyB).map (·.data.toList) then ([], false) else (varyL (itemsN fs varyB), true)
theorem key_Vary_ev {fs : List S37} (h : FitK fs) (k : Nat) (hk : 3000 ≤ k) : key_Vary.f k fs = some (varyR fs) := by
 have h1 := h.len varyB
 unfold key_Vary.f varyR
 rw [show key_items.f k fs (⟨#[86, 97, 114, 121]⟩ : ByteArray) = _ from key_items_ev h varyB (by decide) k hk, Option.bind_some, if_pos ⟨by omega, fun x hx => by have := (h.item varyB x hx).1; omega⟩]
 split <;> rfl
theorem addS_len (s : List UInt8) : ∀ l : List (List UInt8), (addS s l).length ≤ l.length + 1
 | [] => by simp [addS]
 | x :: l => by
  have := addS_len s l
  unfold addS
  split
  ·simp
  ·split
   ·simp
   ·simp; omega
theorem varyS_len (l : List (List UInt8)) : (varyS l).length ≤ l.length := by
 have key : ∀ (l acc : List (List UInt8)), (l.foldl (fun acc s => addS s acc) acc).length ≤ acc.length + l.length := by
  intro l
  induction l with
  | nil => intro acc; simp
  | cons s l ih =>
   intro acc
   have h1 := ih (addS s acc)
   have h2 := addS_len s acc
   rw [List.foldl_cons, List.length_cons]
   omega
 have := key l []
 simpa [varyS] using this
theorem varyL_mem (its : List ByteArray) (y : ByteArray) : y ∈ varyL its ↔ y ∈ its := by
 unfold varyL
 rw [List.mem_map]
 constructor
 ·rintro ⟨l, hl, rfl⟩
  obtain ⟨x, hx, rfl⟩ := List.mem_map.1 ((varyS_mem _ _).1 hl)
  simpa using hx
 ·intro h
  exact ⟨y.data.toList, (varyS_mem _ _).2 (List.mem_map.2 ⟨y, h, rfl⟩), by simp⟩
theorem vary_names {fs : List S37} (h : FitK fs) : (varyR fs).1.length ≤ 4042110 ∧ ∀ x ∈ (varyR fs).1, x.size ≤ 2010 ∧ Sp.lower x.data.toList = x.data.toList := by
 unfold varyR
 split
 ·exact ⟨by simp, fun x hx => by cases hx⟩
 ·refine ⟨?_, fun x hx => h.item varyB x ((varyL_mem _ _).1 hx)⟩
  have h1 := varyS_len ((itemsN fs varyB).map (·.data.toList))
  have h2 := h.len varyB
  unfold varyL
  rw [List.length_map] at h1 ⊢
  omega
def valsS (v : List ByteArray) : List UInt8 := v.flatMap fun x => x.data.toList ++ [10]
def nameS (fs : List S37) (n : ByteArray) : List UInt8 := Sp.lower n.data.toList ++ 58 :: (valsS (getS fs n) ++ [10])
def splitS (ns : List ByteArray) (fs : List S37) : List UInt8 := ns.flatMap (nameS fs)
def mkS (l : List UInt8) : ByteArray := ⟨l.toArray⟩
theorem mkS_list (l : List UInt8) : (mkS l).data.toList = l := by simp [mkS]
theorem mkS_size (l : List UInt8) : (mkS l).size = l.length := mk_size l
theorem mkS_app (a b : List UInt8) : mkS a ++ mkS b = mkS (a ++ b) := H.ba_ext (by rw [ByteArray.data_append, Array.toList_append, mkS_list, mkS_list, mkS_list])
theorem mkS_self (x : ByteArray) : mkS x.data.toList = x := by simp [mkS]
theorem valsS_len (v : List ByteArray) (B : Nat) (h : ∀ x ∈ v, x.size ≤ B) : (valsS v).length ≤ v.length * (B + 1) := by
 induction v with
 | nil => simp [valsS]
 | cons x v ih =>
  have h1 := ih (fun y hy => h y (List.mem_cons_of_mem _ hy))
  have h2 := h x List.mem_cons_self
  have h3 : (valsS (x :: v)).length = x.size + 1 + (valsS v).length := by unfold valsS; rw [List.flatMap_cons, List.length_append, List.length_append, size_data]; rfl
  rw [h3, List.length_cons, Nat.succ_mul]
  omega
theorem Split_l1 (v : List ByteArray) : ∀ (d i k : Nat) (out : List UInt8), v.length - i = d → i ≤ v.length → out.length + (valsS (v.drop i)).length ≤ 100000000000000 → d + 1 ≤ k → key_Split.l1 k v i (mkS out) = some (mkS (out ++ valsS (v.drop i)))
 | d, i, 0, out, hd, hi, ho, hk => by omega
 | d, i, k + 1, out, hd, hi, ho, hk => by
  unfold key_Split.l1
  by_cases hlt : i < v.length
  ·have ed : v.drop i = v[i] :: v.drop (i + 1) := List.drop_eq_getElem_cons hlt
   have hx : v.getD i ByteArray.empty = v[i] := by rw [List.getD_eq_getElem?_getD, List.getElem?_eq_getElem hlt]; rfl
   have e1 : valsS (v.drop i) = v[i].data.toList ++ [10] ++ valsS (v.drop (i + 1)) := by rw [ed]; unfold valsS; rw [List.flatMap_cons]
   rw [e1, List.length_append, List.length_append, size_data, List.length_singleton] at ho
   have e2 : mkS out ++ (v[i] ++ (⟨#[10]⟩ : ByteArray)) = mkS (out ++ (v[i].data.toList ++ [10])) := by
    rw [← mkS_app, ← mkS_app, mkS_self]
    rfl
   rw [if_pos hlt, hx, if_pos (by rw [mkS_size]; omega), e2, Split_l1 v (d - 1) (i + 1) k _ (by omega) (by omega) (by rw [List.length_append, List.length_append, size_data, List.length_singleton]; omega) (by omega), e1]
   simp only [List.append_assoc]
  ·rw [if_neg hlt, List.drop_of_length_le (by omega)]
   simp [valsS]
theorem nameS_len {fs : List S37} (h : FitK fs) (n : ByteArray) : (nameS fs n).length ≤ n.size + 4042112 ∧ (nameS fs n).length = n.size + 2 + (valsS (getS fs n)).length := by
 obtain ⟨h1, h2⟩ := h.get n
 have h3 := valsS_len _ 2010 h2
 have h4 : (getS fs n).length * (2010 + 1) ≤ 2010 * 2011 := Nat.mul_le_mul h1 (Nat.le_refl _)
 have h5 : (nameS fs n).length = n.size + 2 + (valsS (getS fs n)).length := by
  unfold nameS
  rw [List.length_append, List.length_cons, List.length_append, Sp.lower_length, size_data, List.length_singleton]
  omega
 omega
theorem splitS_len {fs : List S37} (h : FitK fs) : ∀ (ns : List ByteArray), (∀ x ∈ ns, x.size ≤ 5000) → (splitS ns fs).length ≤ ns.length * 4047112
 | [], _ => by simp [splitS]
 | n :: ns, hn => by
  have h1 := splitS_len h ns (fun y hy => hn y (List.mem_cons_of_mem _ hy))
  have h2 := hn n List.mem_cons_self
  have h3 := (nameS_len h n).1
  have h4 : (splitS (n :: ns) fs).length = (nameS fs n).length + (splitS ns fs).length := by unfold splitS; rw [List.flatMap_cons, List.length_append]
  rw [h4, List.length_cons, Nat.succ_mul]
  omega
theorem Split_l0 {fs : List S37} (h : FitK fs) (ns : List ByteArray) (hns : ∀ x ∈ ns, x.size ≤ 5000) : ∀ (d i k : Nat) (out : List UInt8), ns.length - i = d → i ≤ ns.length → out.length + (splitS (ns.drop i) fs).length ≤ 90000000000000 → d + 3000 ≤ k → key_Split.l0 k ns fs i (mkS out) = some (mkS (out ++ splitS (ns.drop i) fs))
 | d, i, 0, out, hd, hi, ho, hk => by omega
 | d, i, k + 1, out, hd, hi, ho, hk => by
  have hfn := h.n
  unfold key_Split.l0
  by_cases hlt : i < ns.length
  ·have ed : ns.drop i = ns[i] :: ns.drop (i + 1) := List.drop_eq_getElem_cons hlt
   have hx : ns.getD i ByteArray.empty = ns[i] := by rw [List.getD_eq_getElem?_getD, List.getElem?_eq_getElem hlt]; rfl
   have e1 : splitS (ns.drop i) fs = nameS fs ns[i] ++ splitS (ns.drop (i + 1)) fs := by rw [ed]; unfold splitS; rw [List.flatMap_cons]
   rw [e1, List.length_append] at ho
   have hz := hns ns[i] (List.getElem_mem hlt)
   obtain ⟨hq1, hq2⟩ := nameS_len h ns[i]
   have e2 : mkS out ++ ((⟨(Sp.lower ns[i].data.toList).toArray⟩ : ByteArray) ++ (⟨#[58]⟩ : ByteArray)) = mkS (out ++ (Sp.lower ns[i].data.toList ++ [58])) := by rw [← mkS_app, ← mkS_app]; rfl
   have hlw : (⟨(Sp.lower ns[i].data.toList).toArray⟩ : ByteArray).size = ns[i].size := by rw [mk_size, Sp.lower_length, size_data]
   have hl1 := Split_l1 (getS fs ns[i]) (getS fs ns[i]).length 0 k (out ++ (Sp.lower ns[i].data.toList ++ [58])) (Nat.sub_zero _) (Nat.zero_le _) (by rw [List.drop_zero, List.length_append, List.length_append, Sp.lower_length, size_data, List.length_singleton]; omega) (by have := (h.get ns[i]).1; omega)
   rw [List.drop_zero] at hl1
   rw [if_pos hlt, hx, if_pos (by rw [mkS_size]; omega), lower_f (by omega), Option.bind_some, if_pos (by omega), field_Get_ev fs ns[i] (by omega) (by omega) (fun y hy => by have := (h.x y hy).1; omega) k (by omega), Option.bind_some, e2, hl1, Option.bind_some]
   have hl2 : (out ++ (Sp.lower ns[i].data.toList ++ [58]) ++ valsS (getS fs ns[i])).length ≤ 90000000000000 := by
    rw [List.length_append, List.length_append, List.length_append, Sp.lower_length, size_data, List.length_singleton]
    omega
   have e3 : mkS (out ++ (Sp.lower ns[i].data.toList ++ [58]) ++ valsS (getS fs ns[i])) ++ (⟨#[10]⟩ : ByteArray) = mkS (out ++ nameS fs ns[i]) := by
    rw [show (⟨#[10]⟩ : ByteArray) = mkS [10] from rfl, mkS_app]
    unfold nameS
    simp [List.append_assoc]
   rw [if_pos (by rw [mkS_size]; omega), e3, Split_l0 h ns hns (d - 1) (i + 1) k _ (by omega) (by omega) (by rw [List.length_append]; omega) (by omega), e1, List.append_assoc]
  ·rw [if_neg hlt, List.drop_of_length_le (by omega)]
   simp [splitS]
theorem key_Split_ev {fs : List S37} (h : FitK fs) (ns : List ByteArray) (hn : ns.length ≤ 4042110) (hs : ∀ x ∈ ns, x.size ≤ 5000) (k : Nat) (hk : 5000000 ≤ k) : key_Split.f k ns fs = some (mkS (splitS ns fs)) := by
 have h1 := splitS_len h ns hs
 have h2 : ns.length * 4047112 ≤ 4042110 * 4047112 := Nat.mul_le_mul hn (Nat.le_refl _)
 have := Split_l0 h ns hs ns.length 0 k [] (Nat.sub_zero _) (Nat.zero_le _) (by rw [List.drop_zero]; simp only [List.length_nil]; omega) (by omega)
 rw [List.drop_zero, List.nil_append] at this
 exact this
end Go.Proofs.YthmallhjbhphgaaGreatDoor.P
namespace Go.Proofs.YthmallhjbhphgaaGreatDoor.P
open Go.RowKit Go.Proofs.YthmallhjbhphgaaGreatDoorW.PrintWords Go.Proofs.YthmallhjbhphgaaGreatDoorW.PrintLast Go.Proofs.YthmallhjbhphgaaGreatDoorW.PrintMore
theorem Head_l0n (l : List Int) (hl : l.length ≤ 281474976710656) (hw : ∀ x ∈ l, (Lit.int .u8 x).wf = true) (m t s : ByteArray) (st mi : Int) (d : Nat) :
  ∀ (i k : Nat) (acc : List S37), d ≤ 6 → acc.length + d ≤ 6 → i + 2 * d ≤ 900 → d + 1 ≤ k → MFs acc →
   ∃ (fs : List S37) (n : Nat), lockagelaw06_Maker_Head.l0 k (d : Int) l (i : Int) m t st s mi acc = some (m, t, st, s, mi, fs, (n : Int)) ∧ fs.length ≤ 6 ∧ MFs fs ∧ n ≤ i + 2 * d := by
 induction d with
 | zero =>
  intro i k acc hd ha hi hk hm
  obtain ⟨k, rfl⟩ : ∃ j, k = j + 1 := ⟨k - 1, by omega⟩
  unfold lockagelaw06_Maker_Head.l0
  rw [if_neg (by omega)]
  exact ⟨acc, i, rfl, by omega, hm, by omega⟩
 | succ d ih =>
  intro i k acc hd ha hi hk hm
  obtain ⟨k, rfl⟩ : ∃ j, k = j + 1 := ⟨k - 1, by omega⟩
  obtain ⟨r1, p1, a1, b1⟩ := Pick_ok l hl hw i 13 (by omega) (by omega)
  obtain ⟨r2, p2, a2, b2⟩ := Pick_ok l hl hw (i + 1) 11 (by omega) (by omega)
  have hm2 : MFs (acc ++ [(⟨rdOf ByteArray.empty mNames r1, rdOf ByteArray.empty mVals r2⟩ : S37)]) := by
   intro x hx
   rcases List.mem_append.1 hx with hx | hx
   ·exact hm x hx
   ·obtain rfl := List.mem_singleton.1 hx
    exact ⟨rdOf_mem a1 b1, rdOf_mem a2 b2⟩
  obtain ⟨fs, j, h1, h2, h3, h4⟩ := ih (i + 2) k _ (by omega) (by simp; omega) (by omega) (by omega) hm2
  refine ⟨fs, j, ?_, h2, h3, by omega⟩
  have q1 : lockagelaw06_Maker_Pick.f l (i : Int) 13 = some (r1, ((i + 1 : Nat) : Int)) := p1
  have q2 : lockagelaw06_Maker_Pick.f l ((i + 1 : Nat) : Int) 11 = some (r2, ((i + 2 : Nat) : Int)) := p2
  have e1 : wrap64 (((d + 1 : Nat) : Int) - 1) = (d : Int) := by unfold wrap64; omega
  have c1 : ((d + 1 : Nat) : Int) > 0 := by omega
  have c2 : acc.length < 4398046511104 := by omega
  clear p1 p2 hm2 ih hm hi hk ha hd h4
  simp only [mNames, mVals] at h1
  unfold lockagelaw06_Maker_Head.l0
  simp only [Option.bind_some, List.length_cons, List.length_nil, Nat.zero_add, Nat.reduceAdd, if_pos c1, q1, q2, if_pos a1, if_pos b1, if_pos a2, if_pos b2, if_pos c2, e1]
  exact h1
theorem Head_j0n (l : List Int) (hl : l.length ≤ 281474976710656) (hw : ∀ x ∈ l, (Lit.int .u8 x).wf = true) (m t s : ByteArray) (st mi : Int) (i k : Nat) (hi : i ≤ 100) (hk : 20 ≤ k) :
  ∃ (fs : List S37) (n : Nat), lockagelaw06_Maker_Head.j0 k l (i : Int) m t st s mi = some (m, t, st, s, mi, fs, (n : Int)) ∧ fs.length ≤ 6 ∧ MFs fs ∧ n ≤ i + 20 := by
 obtain ⟨k, rfl⟩ : ∃ j, k = j + 1 := ⟨k - 1, by omega⟩
 obtain ⟨r, p, a, b⟩ := Pick_ok l hl hw i 7 (by omega) (by omega)
 obtain ⟨d, rfl⟩ := Int.eq_ofNat_of_zero_le a
 obtain ⟨fs, j, h1, h2, h3, h4⟩ := Head_l0n l hl hw m t s st mi d (i + 1) k [] (by omega) (by simp; omega) (by omega) (by omega) (fun x hx => by cases hx)
 refine ⟨fs, j, ?_, h2, h3, by omega⟩
 unfold lockagelaw06_Maker_Head.j0
 dsimp only
 have q : lockagelaw06_Maker_Pick.f l (i : Int) 7 = some ((d : Int), ((i + 1 : Nat) : Int)) := p
 rw [q]
 simp only [Option.bind_some]
 exact h1
theorem Req_head (l : List Int) (hl : l.length ≤ 281474976710656) (hw : ∀ x ∈ l, (Lit.int .u8 x).wf = true) :
  ∃ (m t : ByteArray) (mi : Int) (fs : List S37) (n : Nat), lockagelaw06_Maker_Head.f 20 l 0 false = some (m, t, 0, ⟨#[]⟩, mi, fs, (n : Int)) ∧ m ∈ mMeths ∧ t ∈ mTargs ∧ fs.length ≤ 6 ∧ MFs fs ∧ n ≤ 30 := by
 obtain ⟨r1, p1, a1, b1⟩ := Pick_ok l hl hw 0 2 (by omega) (by omega)
 obtain ⟨r2, p2, a2, b2⟩ := Pick_ok l hl hw 1 5 (by omega) (by omega)
 obtain ⟨r3, p3, a3, b3⟩ := Pick_ok l hl hw 2 5 (by omega) (by omega)
 obtain ⟨fs, n, h1, h2, h3, h4⟩ := Head_j0n l hl hw (rdOf ByteArray.empty mMeths r2) (rdOf ByteArray.empty mTargs r3) ⟨#[]⟩ 0 (wrap64 (1 - r1)) 3 20 (by omega) (by omega)
 refine ⟨rdOf ByteArray.empty mMeths r2, rdOf ByteArray.empty mTargs r3, wrap64 (1 - r1), fs, n, ?_, rdOf_mem a2 b2, rdOf_mem a3 b3, h2, h3, by omega⟩
 unfold lockagelaw06_Maker_Head.f
 have q1 : lockagelaw06_Maker_Pick.f l 0 2 = some (r1, 1) := p1
 have q2 : lockagelaw06_Maker_Pick.f l 1 5 = some (r2, 2) := p2
 have q3 : lockagelaw06_Maker_Pick.f l 2 5 = some (r3, 3) := p3
 have q4 : lockagelaw06_Maker_Head.j0 20 l 3 (rdOf ByteArray.empty mMeths r2) (rdOf ByteArray.empty mTargs r3) 0 ⟨#[]⟩ (wrap64 (1 - r1)) = some (rdOf ByteArray.empty mMeths r2, rdOf ByteArray.empty mTargs r3, 0, ⟨#[]⟩, wrap64 (1 - r1), fs, (n : Int)) := h1
 clear p1 p2 p3 h1 hw hl
 rw [q1]
 simp only [Option.bind_some]
 rw [if_neg (by decide), q2]
 simp only [Option.bind_some]
 simp only [List.length_cons, List.length_nil, Nat.zero_add, Nat.reduceAdd]
 rw [if_pos a2, if_pos b2, q3]
 simp only [Option.bind_some]
 rw [if_pos a3, if_pos b3]
 simp only [mMeths, mTargs] at q4 ⊢
 rw [q4]
theorem Request_ev (l : List Int) (hl : l.length ≤ 281474976710656) (hw : ∀ x ∈ l, (Lit.int .u8 x).wf = true) :
  ∃ m t mi fs body, (∀ k, 20 ≤ k → lockagelaw16_Request.f k l = some (m, t, 0, ⟨#[]⟩, mi, fs, body)) ∧ m ∈ mMeths ∧ t ∈ mTargs ∧ (body = (⟨#[120]⟩ : ByteArray) ∨ body = (⟨#[]⟩ : ByteArray)) ∧ fs.length ≤ 6 ∧ MFs fs := by
 obtain ⟨m, t, mi, fs, n, hh, hm, ht, h2, h3, h4⟩ := Req_head l hl hw
 obtain ⟨r4, p4, a4, b4⟩ := Pick_ok l hl hw n 3 (by omega) (by omega)
 obtain ⟨r5, p5, a5, b5⟩ := Pick_ok l hl hw (n + 1) 6 (by omega) (by omega)
 refine ⟨(if r4 > 0 then (⟨#[71, 69, 84]⟩ : ByteArray) else m), t, mi, fs, (if r5 = 5 then (⟨#[120]⟩ : ByteArray) else (⟨#[]⟩ : ByteArray)), fun k hk => at_rounds (lockagelaw16_Request.mono l) hk ?_, ?_, ht, ?_, h2, h3⟩
 ·have q5 : lockagelaw06_Maker_Pick.f l (n : Int) 3 = some (r4, ((n + 1 : Nat) : Int)) := p4
  have q6 : lockagelaw06_Maker_Pick.f l ((n + 1 : Nat) : Int) 6 = some (r5, ((n + 1 + 1 : Nat) : Int)) := p5
  unfold lockagelaw16_Request.f
  rw [hh, Option.bind_some]
  dsimp only
  rw [q5, Option.bind_some]
  dsimp only
  rw [q6, Option.bind_some]
 ·split
  ·exact List.mem_cons_self
  ·exact hm
 ·split
  ·exact .inl rfl
  ·exact .inr rfl
end Go.Proofs.YthmallhjbhphgaaGreatDoor.P
namespace Go.Proofs.YthmallhjbhphgaaGreatDoor.P
open Go.RowKit Go.Proofs.YthmallhjbhphgaaGreatDoorW.PrintWords Go.Proofs.YthmallhjbhphgaaGreatDoorW.PrintLast Go.Proofs.YthmallhjbhphgaaGreatDoorW.PrintMore
def privNo : List ByteArray := [(⟨#[112, 114, 105, 118, 97, 116, 101]⟩ : ByteArray), (⟨#[110, 111, 45, 115, 116, 111, 114, 101]⟩ : ByteArray)]
def setcB : ByteArray := ⟨#[83, 101, 116, 45, 67, 111, 111, 107, 105, 101]⟩
def baseS (h : List S37) : Bool := (varyR h).2 && (!directsS h privNo && !decide (((getS h setcB).length : Int) > 0))
def fitsS (a b h : List S37) : Bool := baseS h && decide (splitS (varyR h).1 a = splitS (varyR h).1 b)
theorem mkS_inj {a b : List UInt8} (h : (mkS a).toList = (mkS b).toList) : a = b := by rw [toList_data, toList_data, mkS_list, mkS_list] at h; exact h
theorem Fits_j0 (ns : List ByteArray) (hn : ns.length ≤ 4042110) (hs : ∀ x ∈ ns, x.size ≤ 5000) (c : Bool) (m t : ByteArray) (st : Int) (rs : ByteArray) (mi : Int) {a : List S37} (ha : FitK a) (ba : ByteArray) (m' t' : ByteArray) (st' : Int) (rs' : ByteArray) (mi' : Int) {b : List S37} (hb : FitK b) (bb : ByteArray) (k : Nat) (hk : 5000000 ≤ k) :
  key_Fits.j0 (k + 1) ns c m t st rs mi a ba m' t' st' rs' mi' b bb = some (!c && decide (splitS ns a = splitS ns b)) := by
 rw [key_Fits.j0]
 cases c with
 | true => rw [if_pos rfl]; rfl
 | false =>
  rw [if_neg (by decide), key_Split_ev ha ns hn hs k hk, Option.bind_some, key_Split_ev hb ns hn hs k hk, Option.bind_some]
  by_cases e : splitS ns a = splitS ns b
  ·rw [e]
   simp
  ·rw [decide_eq_false e]
   have : ((mkS (splitS ns a)).toList == (mkS (splitS ns b)).toList) = false := by
    rw [beq_eq_false_iff_ne]
    exact fun h => e (mkS_inj h)
   rw [this]
   rfl
theorem key_Fits_ev (m t : ByteArray) (st : Int) (rs : ByteArray) (mi : Int) {a : List S37} (ha : FitK a) (ba : ByteArray) (m' t' : ByteArray) (st' : Int) (rs' : ByteArray) (mi' : Int) {b : List S37} (hb : FitK b) (bb : ByteArray) (m2 t2 : ByteArray) (st2 : Int) (rs2 : ByteArray) (mi2 : Int) {h : List S37} (hh : FitK h) (k : Nat) (hk : 5000001 ≤ k) :
  key_Fits.f k m t st rs mi a ba m' t' st' rs' mi' b bb m2 t2 st2 rs2 mi2 h = some (fitsS a b h) := by
 obtain ⟨k, rfl⟩ : ∃ j, k = j + 1 := ⟨k - 1, by omega⟩
 obtain ⟨n1, n2⟩ := vary_names hh
 have hhn := hh.n
 unfold key_Fits.f fitsS baseS
 rw [key_Vary_ev hh (k + 1) (by omega), Option.bind_some]
 have hj := fun c => Fits_j0 (varyR h).1 n1 (fun x hx => by have := (n2 x hx).1; omega) c m t st rs mi ha ba m' t' st' rs' mi' hb bb k (by omega)
 cases hv : (varyR h).2 with
 | false =>
  rw [if_neg (by decide), hj true]
  rfl
 | true =>
  rw [if_pos rfl, show key_directs.f (k + 1) h [(⟨#[112, 114, 105, 118, 97, 116, 101]⟩ : ByteArray), (⟨#[110, 111, 45, 115, 116, 111, 114, 101]⟩ : ByteArray)] = _ from key_directs_ev hh privNo (by decide) (k + 1) (by omega), Option.bind_some]
  cases directsS h privNo with
  | true =>
   rw [if_pos rfl, hj true]
   rfl
  | false =>
   rw [if_neg (by decide), show field_Get.f (k + 1) h (⟨#[83, 101, 116, 45, 67, 111, 111, 107, 105, 101]⟩ : ByteArray) = _ from field_Get_ev h setcB (by omega) (by decide) (fun y hy => by have := (hh.x y hy).1; omega) (k + 1) (by omega), Option.bind_some, hj]
   rfl
theorem MFs.fitK {fs : List S37} (h : MFs fs) (hn : fs.length ≤ 2010) : FitK fs :=
 ⟨hn, fun x hx => by have h1 := (names_good _ (h x hx).1).2; have h2 := (vals_good _ (h x hx).2).2; omega⟩
theorem awake16 : lockagelaw16_awake.f 300 = some true := by kernel_rfl
theorem awake16_k (k : Nat) (hk : 300 ≤ k) : lockagelaw16_awake.f k = some true := at_rounds lockagelaw16_awake.mono hk awake16
theorem fitsS_self {a b h : List S37} (e : fitsS a b h = true) : fitsS a a h = true := by
 unfold fitsS at e ⊢
 rw [Bool.and_eq_true] at e ⊢
 exact ⟨e.1, by simp⟩
theorem fitsS_comm (a b h : List S37) : fitsS a b h = fitsS b a h := by
 unfold fitsS
 congr 1
 exact decide_eq_decide.2 ⟨fun h => h.symm, fun h => h.symm⟩
theorem fitsS_trans {a b c h : List S37} (e : fitsS a b h = true) (e2 : fitsS b c h = true) : fitsS a c h = true := by
 unfold fitsS at e e2 ⊢
 rw [Bool.and_eq_true] at e e2 ⊢
 refine ⟨e.1, decide_eq_true ?_⟩
 rw [of_decide_eq_true e.2, of_decide_eq_true e2.2]
theorem KeyFits_ok (l0 : List Int) (y0 : l0.length * 1 ≤ 140737488351232) (h0 : ∀ x ∈ l0, (Lit.int .u8 x).wf = true) (l1 : List Int) (y1 : l1.length * 1 ≤ 140737488351232) (h1 : ∀ x ∈ l1, (Lit.int .u8 x).wf = true) (l2 : List Int) (y2 : l2.length * 1 ≤ 140737488351232) (h2 : ∀ x ∈ l2, (Lit.int .u8 x).wf = true) (l3 : List Int) (y3 : l3.length * 1 ≤ 140737488351232) (h3 : ∀ x ∈ l3, (Lit.int .u8 x).wf = true) :
  ∃ k, lockagelaw16_KeyFits.f k l0 l1 l2 l3 = some true := by
 obtain ⟨ma, ta, mia, fa, ba, ea, _, _, _, na, Ha⟩ := Request_ev l0 (by omega) h0
 obtain ⟨mb, tb, mib, fb, bb, eb, _, _, _, nb, Hb⟩ := Request_ev l1 (by omega) h1
 obtain ⟨mc, tc, mic, fc, bc, ec, _, _, _, nc, Hc⟩ := Request_ev l2 (by omega) h2
 obtain ⟨st, rs, mi, fh, eh, _, _, _, nh, Hh⟩ := Made_true l3 (by omega) h3
 have Fa := Ha.fitK (by omega)
 have Fb := Hb.fitK (by omega)
 have Fc := Hc.fitK (by omega)
 have Fh := Hh.fitK (by omega)
 refine ⟨5000001, ?_⟩
 unfold lockagelaw16_KeyFits.f
 rw [awake16_k _ (by decide), Option.bind_some, if_pos rfl, ea _ (by decide), Option.bind_some, eb _ (by decide), Option.bind_some, ec _ (by decide), Option.bind_some, eh _ (by decide), Option.bind_some]
 dsimp only
 rw [key_Fits_ev _ _ _ _ _ Fa _ _ _ _ _ _ Fb _ _ _ _ _ _ Fh _ (Nat.le_refl _), Option.bind_some, key_Fits_ev _ _ _ _ _ Fb _ _ _ _ _ _ Fa _ _ _ _ _ _ Fh _ (Nat.le_refl _), Option.bind_some, ← fitsS_comm fa fb fh, if_pos (by simp)]
 cases e : fitsS fa fb fh with
 | false => rw [if_neg (by decide)]
 | true =>
  rw [if_pos rfl, key_Fits_ev _ _ _ _ _ Fb _ _ _ _ _ _ Fc _ _ _ _ _ _ Fh _ (Nat.le_refl _), Option.bind_some]
  cases e2 : fitsS fb fc fh with
  | false => rw [if_neg (by decide), key_Fits_ev _ _ _ _ _ Fa _ _ _ _ _ _ Fa _ _ _ _ _ _ Fh _ (Nat.le_refl _), Option.bind_some, fitsS_self e]
  | true => rw [if_pos rfl, key_Fits_ev _ _ _ _ _ Fa _ _ _ _ _ _ Fc _ _ _ _ _ _ Fh _ (Nat.le_refl _), Option.bind_some, fitsS_trans e e2, if_pos rfl, key_Fits_ev _ _ _ _ _ Fa _ _ _ _ _ _ Fa _ _ _ _ _ _ Fh _ (Nat.le_refl _), Option.bind_some, fitsS_self e]
end Go.Proofs.YthmallhjbhphgaaGreatDoor.P
