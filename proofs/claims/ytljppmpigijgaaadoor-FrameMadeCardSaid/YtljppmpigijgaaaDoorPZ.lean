/- The law FrameMade in plain Lean: what the printed functions come to. -/
import Derived.Test.YtljppmpigijgaaaDoorPA
import Derived.Test.YtljppmpigijgaaaDoorHZ
import Derived.Test.YtljppmpigijgaaaDoorHN
import Derived.Test.YtljppmpigijgaaaDoorPx3
import Derived.Lib.LazyBuf
import Derived.Test.YtljppmpigijgaaaDoorPx9
import Derived.Test.YtljppmpigijgaaaDoorHK
import Derived.Test.YtljppmpigijgaaaDoorHG
import Derived.OpenShut
import Derived.Test.YtljppmpigijgaaaDoorPx2
import Derived.Test.YtljppmpigijgaaaDoorHI
import Derived.Test.YtljppmpigijgaaaDoorPx6
import Derived.Test.YtljppmpigijgaaaDoorPx5
import Derived.Test.YtljppmpigijgaaaDoorPx12
import Derived.Test.YtljppmpigijgaaaDoorPx4
import Derived.Test.YtljppmpigijgaaaDoorPx7
import Derived.Test.YtljppmpigijgaaaDoorPx8
import Derived.Test.YtljppmpigijgaaaDoorPx10
import Derived.Test.YtljppmpigijgaaaDoorPx11
import Derived.Test.YtljppmpigijgaaaDoorPx13
namespace Go.Proofs.YtljppmpigijgaaaDoor.P
open Go.RowKit Go.Proofs.YtljppmpigijgaaaDoorW.PrintWords Go.Proofs.YtljppmpigijgaaaDoorW.PrintLast Go.Proofs.YtljppmpigijgaaaDoorW.PrintMore

theorem size_data (s : ByteArray) : s.data.toList.length = s.size := by rw [Array.length_toList]; rfl
theorem name_f {a : ByteArray} (h : a.size ≤ 9223372036854775806) : field_Name.f a = some (Sp.nameB a.data.toList) := by unfold field_Name.f; rw [if_pos h]
theorem value_f {a : ByteArray} (h : a.size ≤ 9223372036854775806) : field_Value.f a = some (Sp.valB a.data.toList) := by unfold field_Value.f; rw [if_pos h]
theorem trim_f {a : ByteArray} (h : a.size ≤ 9223372036854775806) : field_Trim.f a = some ⟨(Sp.trim a.data.toList).toArray⟩ := by unfold field_Trim.f; rw [if_pos h]
theorem lower_f {a : ByteArray} (h : a.size ≤ 9223372036854775806) : field_Lower.f a = some ⟨(Sp.lower a.data.toList).toArray⟩ := by unfold field_Lower.f; rw [if_pos h]
theorem mk_size (l : List UInt8) : (⟨l.toArray⟩ : ByteArray).size = l.length := by show l.toArray.size = _; rw [List.size_toArray]
theorem toList_data (a : ByteArray) : a.toList = a.data.toList := ByteArray.toList_eq a
/-- The texts under a name, in their order. -/
def getS (l : List S32) (a : ByteArray) : List ByteArray := (l.filter fun x => Sp.lower x.f0.data.toList == Sp.lower a.data.toList).map (·.f1)
theorem getS_length (l : List S32) (a : ByteArray) : (getS l a).length ≤ l.length := by
  unfold getS
  rw [List.length_map]
  exact List.length_filter_le _ _
theorem field_Get_at (l : List S32) (a : ByteArray) (hl : l.length < 4398046511104) (ha : a.size ≤ 9223372036854775806) (hn : ∀ x ∈ l, x.f0.size ≤ 9223372036854775806) :
    ∀ (d i k : Nat) (acc : List ByteArray), l.length - i = d → i ≤ l.length → acc.length ≤ i → d + 1 ≤ k → field_Get.l0 k a acc l (l.length : Int) i = some (acc ++ getS (l.drop i) a)
  | d, i, 0, acc, hd, hi, hacc, hk => by omega
  | d, i, k + 1, acc, hd, hi, hacc, hk => by
    unfold field_Get.l0
    by_cases hlt : i < l.length
    · rw [if_pos (by omega), if_pos (by omega), if_pos (by omega)]
      have hx : rd_T32 l (i : Int) = l[i] := by simp [rd_T32, hlt]
      have hs := hn l[i] (List.getElem_mem hlt)
      have ew : wrap64 ((i : Int) + 1) = ((i + 1 : Nat) : Int) := by unfold wrap64; omega
      rw [hx, lower_f hs, lower_f ha, ew]
      simp only [Option.bind_some]
      have ed : l.drop i = l[i] :: l.drop (i + 1) := List.drop_eq_getElem_cons hlt
      have eg : getS (l.drop i) a = (if (Sp.lower l[i].f0.data.toList == Sp.lower a.data.toList) = true then [l[i].f1] else []) ++ getS (l.drop (i + 1)) a := by
        rw [ed]
        unfold getS
        rw [List.filter_cons]
        split <;> simp
      rw [eg]
      by_cases c : Sp.lower l[i].f0.data.toList = Sp.lower a.data.toList
      · rw [if_pos (by rw [toList_data, toList_data]; simpa using c), if_pos (by omega), if_pos (by simpa using c)]
        rw [field_Get_at l a hl ha hn (d - 1) (i + 1) k _ (by omega) (by omega) (by simp; omega) (by omega), List.append_assoc]
      · rw [if_neg (by rw [toList_data, toList_data]; simpa using c), if_neg (by simpa using c)]
        rw [field_Get_at l a hl ha hn (d - 1) (i + 1) k _ (by omega) (by omega) (by omega) (by omega), List.nil_append]
    · rw [if_neg (by omega), List.drop_of_length_le (by omega)]
      simp [getS]
theorem field_Get_ev (l : List S32) (a : ByteArray) (hl : l.length < 4398046511104) (ha : a.size ≤ 9223372036854775806) (hn : ∀ x ∈ l, x.f0.size ≤ 9223372036854775806) (k : Nat) (hk : l.length + 1 ≤ k) :
    field_Get.f k l a = some (getS l a) := by
  unfold field_Get.f
  have := field_Get_at l a hl ha hn l.length 0 k [] (by omega) (by omega) (by simp) hk
  simpa using this
end Go.Proofs.YtljppmpigijgaaaDoor.P
namespace Go.Proofs.YtljppmpigijgaaaDoor.P
open Go.RowKit Go.Proofs.YtljppmpigijgaaaDoorW.PrintWords Go.Proofs.YtljppmpigijgaaaDoorW.PrintLast Go.Proofs.YtljppmpigijgaaaDoorW.PrintMore

theorem wrap_next (n : Nat) (h : n < 8796093022208) : wrap64 ((n : Int) + 1) = ((n + 1 : Nat) : Int) := by unfold wrap64; omega
theorem bt_low {x : ByteArray} {i : Nat} (h : i < x.size) : bt x (i : Int) = ((x.data.toList[i]'(by rw [size_data]; exact h)).toNat : Int) := by
  unfold bt
  rw [dif_pos (by simpa using h)]
  rfl
theorem one_byte (c : UInt8) : (strOfNums [(c.toNat : Int)]) = ⟨#[c]⟩ := by
  have := Lib.Lz.strOfNums_map [c]
  simpa using this
theorem low_num (c : UInt8) (h : 65 ≤ (c.toNat : Int)) (h' : (c.toNat : Int) ≤ 90) : ((c.toNat : Int) + 32) % 256 = ((Sp.lowC c).toNat : Int) := by
  unfold Sp.lowC
  have h1 : (65 : UInt8) ≤ c := by rw [UInt8.le_iff_toNat_le]; simp; omega
  have h2 : c ≤ (90 : UInt8) := by rw [UInt8.le_iff_toNat_le]; simp; omega
  rw [if_pos (by simp [h1, h2]), UInt8.toNat_add]
  simp
theorem low_same (c : UInt8) (h : ¬ (65 ≤ (c.toNat : Int) ∧ (c.toNat : Int) ≤ 90)) : Sp.lowC c = c := by
  unfold Sp.lowC
  rw [if_neg]
  intro e
  simp only [Bool.and_eq_true, decide_eq_true_eq] at e
  obtain ⟨h1, h2⟩ := e
  rw [UInt8.le_iff_toNat_le] at h1 h2
  simp at h1 h2
  omega
theorem Low_at (x : ByteArray) (hx : x.size ≤ 9223372036854775806) :
    ∀ (d i k : Nat) (acc : ByteArray), x.size - i = d → i ≤ x.size → acc.size ≤ i → d + 1 ≤ k → lockageref05_Lower.l0 k x acc i = some ⟨(acc.data.toList ++ Sp.lower (x.data.toList.drop i)).toArray⟩
  | d, i, 0, acc, hd, hi, hacc, hk => by omega
  | d, i, k + 1, acc, hd, hi, hacc, hk => by
    unfold lockageref05_Lower.l0
    by_cases hlt : i < x.size
    · rw [if_pos (by omega), if_pos (by omega)]
      have hl : i < x.data.toList.length := by rw [size_data]; exact hlt
      have ew : wrap64 ((i : Int) + 1) = ((i + 1 : Nat) : Int) := by unfold wrap64; omega
      have ed : x.data.toList.drop i = x.data.toList[i] :: x.data.toList.drop (i + 1) := List.drop_eq_getElem_cons hl
      have go : ∀ c : UInt8, Sp.lowC (x.data.toList[i]) = c → (if acc.size + (strOfNums [(c.toNat : Int)]).size ≤ 9223372036854775807 then lockageref05_Lower.l0 k x (acc ++ strOfNums [(c.toNat : Int)]) (wrap64 ((i : Int) + 1)) else none) = some ⟨(acc.data.toList ++ Sp.lower (x.data.toList.drop i)).toArray⟩ := by
        intro c hc
        have s1 : (⟨#[c]⟩ : ByteArray).size = 1 := rfl
        rw [one_byte, if_pos (by omega), ew, Low_at x hx (d - 1) (i + 1) k _ (by omega) (by omega) (by rw [ByteArray.size_append]; omega) (by omega), ed]
        have e1 : Sp.lower (x.data.toList[i] :: x.data.toList.drop (i + 1)) = c :: Sp.lower (x.data.toList.drop (i + 1)) := by rw [← hc]; rfl
        have e2 : (acc ++ (⟨#[c]⟩ : ByteArray)).data.toList = acc.data.toList ++ [c] := by rw [ByteArray.data_append]; simp
        rw [e1, e2, List.append_assoc]
        rfl
      rw [bt_low hlt]
      simp only [Option.bind_some]
      by_cases h1 : (x.data.toList[i].toNat : Int) ≥ 65
      · rw [if_pos h1]
        by_cases h2 : (x.data.toList[i].toNat : Int) ≤ 90
        · rw [if_pos h2, low_num _ h1 h2]
          exact go _ rfl
        · rw [if_neg h2]
          exact go _ (low_same _ (by omega))
      · rw [if_neg h1]
        exact go _ (low_same _ (by omega))
    · rw [if_neg (by omega), List.drop_of_length_le (by rw [size_data]; omega)]
      have : (⟨(acc.data.toList ++ Sp.lower []).toArray⟩ : ByteArray) = acc := H.ba_ext (by simp [Sp.lower])
      rw [this]
theorem Low_ev (x : ByteArray) (hx : x.size ≤ 9223372036854775806) (k : Nat) (hk : x.size + 1 ≤ k) : lockageref05_Lower.f k x = some ⟨(Sp.lower x.data.toList).toArray⟩ := by
  unfold lockageref05_Lower.f
  have := Low_at x hx x.size 0 k ⟨#[]⟩ (by omega) (by omega) (by decide) (by omega)
  simpa using this
theorem RefGet_at (B : Nat) (hB : B ≤ 9223372036854775806) (l : List S32) (a : ByteArray) (hl : l.length < 4398046511104) (ha : a.size ≤ B) (hn : ∀ x ∈ l, x.f0.size ≤ B) :
    ∀ (d i k : Nat) (acc : List ByteArray), l.length - i = d → i ≤ l.length → acc.length ≤ i → d + B + 2 ≤ k → lockageref05_Get.l0 k l a acc i = some (acc ++ getS (l.drop i) a)
  | d, i, 0, acc, hd, hi, hacc, hk => by omega
  | d, i, k + 1, acc, hd, hi, hacc, hk => by
    unfold lockageref05_Get.l0
    by_cases hlt : i < l.length
    · rw [if_pos (by omega), if_pos (by omega)]
      have hx : rd_T32 l (i : Int) = l[i] := by simp [rd_T32, hlt]
      have hs := hn l[i] (List.getElem_mem hlt)
      have ew : wrap64 ((i : Int) + 1) = ((i + 1 : Nat) : Int) := by unfold wrap64; omega
      rw [hx, Low_ev _ (by omega) k (by omega), Low_ev a (by omega) k (by omega), ew]
      simp only [Option.bind_some]
      have ed : l.drop i = l[i] :: l.drop (i + 1) := List.drop_eq_getElem_cons hlt
      have eg : getS (l.drop i) a = (if (Sp.lower l[i].f0.data.toList == Sp.lower a.data.toList) = true then [l[i].f1] else []) ++ getS (l.drop (i + 1)) a := by
        rw [ed]
        unfold getS
        rw [List.filter_cons]
        split <;> simp
      rw [eg]
      by_cases c : Sp.lower l[i].f0.data.toList = Sp.lower a.data.toList
      · rw [if_pos (by rw [toList_data, toList_data]; simpa using c), if_pos (by omega), if_pos (by simpa using c)]
        rw [RefGet_at B hB l a hl ha hn (d - 1) (i + 1) k _ (by omega) (by omega) (by simp; omega) (by omega), List.append_assoc]
      · rw [if_neg (by rw [toList_data, toList_data]; simpa using c), if_neg (by simpa using c)]
        rw [RefGet_at B hB l a hl ha hn (d - 1) (i + 1) k _ (by omega) (by omega) (by omega) (by omega), List.nil_append]
    · rw [if_neg (by omega), List.drop_of_length_le (by omega)]
      simp [getS]
theorem RefGet_ev (B : Nat) (hB : B ≤ 9223372036854775806) (l : List S32) (a : ByteArray) (hl : l.length < 4398046511104) (ha : a.size ≤ B) (hn : ∀ x ∈ l, x.f0.size ≤ B) (k : Nat) (hk : l.length + B + 2 ≤ k) :
    lockageref05_Get.f k l a = some (getS l a) := by
  unfold lockageref05_Get.f
  have := RefGet_at B hB l a hl ha hn l.length 0 k [] (by omega) (by omega) (by simp) hk
  simpa using this
end Go.Proofs.YtljppmpigijgaaaDoor.P
namespace Go.Proofs.YtljppmpigijgaaaDoor.P
open Go.RowKit Go.Proofs.YtljppmpigijgaaaDoorW.PrintWords Go.Proofs.YtljppmpigijgaaaDoorW.PrintLast Go.Proofs.YtljppmpigijgaaaDoorW.PrintMore
def mNames : List ByteArray := [(⟨#[72, 111, 115, 116]⟩ : ByteArray), (⟨#[67, 111, 110, 116, 101, 110, 116, 45, 76, 101, 110, 103, 116, 104]⟩ : ByteArray), (⟨#[84, 114, 97, 110, 115, 102, 101, 114, 45, 69, 110, 99, 111, 100, 105, 110, 103]⟩ : ByteArray), (⟨#[67, 111, 110, 110, 101, 99, 116, 105, 111, 110]⟩ : ByteArray), (⟨#[67, 111, 111, 107, 105, 101]⟩ : ByteArray), (⟨#[86, 97, 114, 121]⟩ : ByteArray), (⟨#[65]⟩ : ByteArray), (⟨#[97, 99, 99, 101, 112, 116]⟩ : ByteArray), (⟨#[82, 97, 110, 103, 101]⟩ : ByteArray), (⟨#[67, 97, 99, 104, 101, 45, 67, 111, 110, 116, 114, 111, 108]⟩ : ByteArray), (⟨#[65, 117, 116, 104, 111, 114, 105, 122, 97, 116, 105, 111, 110]⟩ : ByteArray), (⟨#[88, 45, 70, 111, 114, 119, 97, 114, 100, 101, 100, 45, 70, 111, 114]⟩ : ByteArray), (⟨#[75, 101, 101, 112, 45, 65, 108, 105, 118, 101]⟩ : ByteArray)]
def mVals : List ByteArray := [(⟨#[]⟩ : ByteArray), (⟨#[51]⟩ : ByteArray), (⟨#[99, 104, 117, 110, 107, 101, 100]⟩ : ByteArray), (⟨#[99, 108, 111, 115, 101]⟩ : ByteArray), (⟨#[107, 101, 101, 112, 45, 97, 108, 105, 118, 101, 44, 32, 65]⟩ : ByteArray), (⟨#[97, 44, 32, 98]⟩ : ByteArray), (⟨#[110, 111, 45, 115, 116, 111, 114, 101]⟩ : ByteArray), (⟨#[48]⟩ : ByteArray), (⟨#[120]⟩ : ByteArray), (⟨#[65, 99, 99, 101, 112, 116]⟩ : ByteArray), (⟨#[97, 99, 99, 101, 112, 116, 44, 32, 65]⟩ : ByteArray)]
def mMeths : List ByteArray := [(⟨#[71, 69, 84]⟩ : ByteArray), (⟨#[80, 79, 83, 84]⟩ : ByteArray), (⟨#[72, 69, 65, 68]⟩ : ByteArray), (⟨#[80, 85, 84]⟩ : ByteArray), (⟨#[120, 45, 121]⟩ : ByteArray)]
def mTargs : List ByteArray := [(⟨#[47]⟩ : ByteArray), (⟨#[47, 97, 47, 98]⟩ : ByteArray), (⟨#[47, 97, 63, 120, 61, 49]⟩ : ByteArray), (⟨#[42]⟩ : ByteArray), (⟨#[47, 37, 52, 49]⟩ : ByteArray)]
theorem rdOf_mem {l : List ByteArray} {i : Int} (h0 : 0 ≤ i) (h : i < (l.length : Int)) : rdOf ByteArray.empty l i ∈ l := by
  have hl : i.toNat < l.length := by omega
  unfold rdOf
  rw [List.getD_eq_getElem?_getD, List.getElem?_eq_getElem hl]
  exact List.getElem_mem hl
theorem Pick_ok (l : List Int) (hl : l.length ≤ 281474976710656) (hw : ∀ x ∈ l, (Lit.int .u8 x).wf = true) (i n : Nat) (hi : i ≤ 1000) (hn : 0 < n) :
    ∃ r : Int, lockagelaw06_Maker_Pick.f l i n = some (r, ((i + 1 : Nat) : Int)) ∧ 0 ≤ r ∧ r < n := by
  have e1 : wrap64 ((i : Int) + 1) = ((i + 1 : Nat) : Int) := by unfold wrap64; omega
  have e2 : wrap64 (((i + 1 : Nat) : Int) - 1) = (i : Int) := by unfold wrap64; omega
  unfold lockagelaw06_Maker_Pick.f
  rw [e1, e2]
  clear e1 e2
  by_cases h : ((i + 1 : Nat) : Int) > (l.length : Int)
  · rw [if_pos h]
    exact ⟨0, rfl, by omega, by omega⟩
  · have hx : rd l (i : Int) = l[i]'(by omega) := by simp [rd, show i < l.length by omega]
    have hb := bounds_u8 (hw (l[i]'(by omega)) (List.getElem_mem _))
    have ex : wrap64 (l[i]'(by omega)) = l[i]'(by omega) := by
      generalize l[i]'(by omega) = v at hb
      unfold wrap64; omega
    rw [if_neg h, if_pos (by omega), if_pos (by omega), if_neg (by omega), hx, ex]
    exact ⟨_, rfl, Int.tmod_nonneg _ hb.1, Int.tmod_lt_of_pos _ (by omega)⟩
def MFs (l : List S32) : Prop := ∀ x ∈ l, x.f0 ∈ mNames ∧ x.f1 ∈ mVals
theorem Head_l0 (l : List Int) (hl : l.length ≤ 281474976710656) (hw : ∀ x ∈ l, (Lit.int .u8 x).wf = true) (m t s : ByteArray) (st mi : Int) (d : Nat) :
    ∀ (i k : Nat) (acc : List S32), d ≤ 6 → acc.length + d ≤ 6 → i + 2 * d ≤ 900 → d + 1 ≤ k → MFs acc →
      ∃ fs j, lockagelaw06_Maker_Head.l0 k (d : Int) l (i : Int) m t st s mi acc = some (m, t, st, s, mi, fs, j) ∧ fs.length ≤ 6 ∧ MFs fs := by
  induction d with
  | zero =>
    intro i k acc hd ha hi hk hm
    obtain ⟨k, rfl⟩ : ∃ j, k = j + 1 := ⟨k - 1, by omega⟩
    unfold lockagelaw06_Maker_Head.l0
    rw [if_neg (by omega)]
    exact ⟨acc, _, rfl, by omega, hm⟩
  | succ d ih =>
    intro i k acc hd ha hi hk hm
    obtain ⟨k, rfl⟩ : ∃ j, k = j + 1 := ⟨k - 1, by omega⟩
    obtain ⟨r1, p1, a1, b1⟩ := Pick_ok l hl hw i 13 (by omega) (by omega)
    obtain ⟨r2, p2, a2, b2⟩ := Pick_ok l hl hw (i + 1) 11 (by omega) (by omega)
    have hm2 : MFs (acc ++ [(⟨rdOf ByteArray.empty mNames r1, rdOf ByteArray.empty mVals r2⟩ : S32)]) := by
      intro x hx
      rcases List.mem_append.1 hx with hx | hx
      · exact hm x hx
      · obtain rfl := List.mem_singleton.1 hx
        exact ⟨rdOf_mem a1 b1, rdOf_mem a2 b2⟩
    obtain ⟨fs, j, h1, h2, h3⟩ := ih (i + 2) k _ (by omega) (by simp; omega) (by omega) (by omega) hm2
    refine ⟨fs, j, ?_, h2, h3⟩
    have q1 : lockagelaw06_Maker_Pick.f l (i : Int) 13 = some (r1, ((i + 1 : Nat) : Int)) := p1
    have q2 : lockagelaw06_Maker_Pick.f l ((i + 1 : Nat) : Int) 11 = some (r2, ((i + 2 : Nat) : Int)) := p2
    have e1 : wrap64 (((d + 1 : Nat) : Int) - 1) = (d : Int) := by unfold wrap64; omega
    have c1 : ((d + 1 : Nat) : Int) > 0 := by omega
    have c2 : acc.length < 4398046511104 := by omega
    clear p1 p2 hm2 ih hm hi hk ha hd
    simp only [mNames, mVals] at h1
    unfold lockagelaw06_Maker_Head.l0
    simp only [Option.bind_some, List.length_cons, List.length_nil, Nat.zero_add, Nat.reduceAdd, if_pos c1, q1, q2, if_pos a1, if_pos b1, if_pos a2, if_pos b2, if_pos c2, e1]
    exact h1
theorem Head_j0 (l : List Int) (hl : l.length ≤ 281474976710656) (hw : ∀ x ∈ l, (Lit.int .u8 x).wf = true) (m t s : ByteArray) (st mi : Int) (i k : Nat) (hi : i ≤ 100) (hk : 20 ≤ k) :
    ∃ fs j, lockagelaw06_Maker_Head.j0 k l (i : Int) m t st s mi = some (m, t, st, s, mi, fs, j) ∧ fs.length ≤ 6 ∧ MFs fs := by
  obtain ⟨k, rfl⟩ : ∃ j, k = j + 1 := ⟨k - 1, by omega⟩
  obtain ⟨r, p, a, b⟩ := Pick_ok l hl hw i 7 (by omega) (by omega)
  obtain ⟨d, rfl⟩ := Int.eq_ofNat_of_zero_le a
  obtain ⟨fs, j, h1, h2, h3⟩ := Head_l0 l hl hw m t s st mi d (i + 1) k [] (by omega) (by simp; omega) (by omega) (by omega) (fun x hx => by cases hx)
  refine ⟨fs, j, ?_, h2, h3⟩
  unfold lockagelaw06_Maker_Head.j0
  dsimp only
  have q : lockagelaw06_Maker_Pick.f l (i : Int) 7 = some ((d : Int), ((i + 1 : Nat) : Int)) := p
  rw [q]
  simp only [Option.bind_some]
  exact h1
theorem Made_false (l : List Int) (hl : l.length ≤ 281474976710656) (hw : ∀ x ∈ l, (Lit.int .u8 x).wf = true) :
    ∃ m t mi fs, (∀ k, 20 ≤ k → lockagelaw06_Made.f k l false = some (m, t, 0, ⟨#[]⟩, mi, fs)) ∧ m ∈ mMeths ∧ t ∈ mTargs ∧ (mi = 0 ∨ mi = 1) ∧ fs.length ≤ 6 ∧ MFs fs := by
  obtain ⟨r1, p1, a1, b1⟩ := Pick_ok l hl hw 0 2 (by omega) (by omega)
  obtain ⟨r2, p2, a2, b2⟩ := Pick_ok l hl hw 1 5 (by omega) (by omega)
  obtain ⟨r3, p3, a3, b3⟩ := Pick_ok l hl hw 2 5 (by omega) (by omega)
  obtain ⟨fs, j, h1, h2, h3⟩ := Head_j0 l hl hw (rdOf ByteArray.empty mMeths r2) (rdOf ByteArray.empty mTargs r3) ⟨#[]⟩ 0 (wrap64 (1 - r1)) 3 20 (by omega) (by omega)
  refine ⟨rdOf ByteArray.empty mMeths r2, rdOf ByteArray.empty mTargs r3, wrap64 (1 - r1), fs, fun k hk => at_rounds (lockagelaw06_Made.mono l false) hk ?_, rdOf_mem a2 b2, rdOf_mem a3 b3, ?_, h2, h3⟩
  · unfold lockagelaw06_Made.f lockagelaw06_Maker_Head.f
    have q1 : lockagelaw06_Maker_Pick.f l 0 2 = some (r1, 1) := p1
    have q2 : lockagelaw06_Maker_Pick.f l 1 5 = some (r2, 2) := p2
    have q3 : lockagelaw06_Maker_Pick.f l 2 5 = some (r3, 3) := p3
    have q4 : lockagelaw06_Maker_Head.j0 20 l 3 (rdOf ByteArray.empty mMeths r2) (rdOf ByteArray.empty mTargs r3) 0 ⟨#[]⟩ (wrap64 (1 - r1)) = some (rdOf ByteArray.empty mMeths r2, rdOf ByteArray.empty mTargs r3, 0, ⟨#[]⟩, wrap64 (1 - r1), fs, j) := h1
    rw [q1]
    simp only [Option.bind_some]
    rw [if_neg (by decide), q2]
    simp only [Option.bind_some]
    simp only [List.length_cons, List.length_nil, Nat.zero_add, Nat.reduceAdd]
    rw [if_pos a2, if_pos b2, q3]
    simp only [Option.bind_some]
    rw [if_pos a3, if_pos b3]
    simp only [mMeths, mTargs] at q4
    rw [q4]
    rfl
  · have : r1 = 0 ∨ r1 = 1 := by omega
    rcases this with rfl | rfl
    · exact .inr (by unfold wrap64; omega)
    · exact .inl (by unfold wrap64; omega)
theorem meths_good : ∀ m ∈ mMeths, Sp.nameB m.data.toList = true ∧ m.size ≤ 100 := by
  have h : (mMeths.all fun m => Sp.nameB m.data.toList && decide (m.size ≤ 100)) = true := by kernel_rfl
  intro m hm
  have := List.all_eq_true.1 h m hm
  simpa using this
theorem targs_good : ∀ m ∈ mTargs, head_target.f 30 m = some true := by
  have h : (mTargs.all fun m => head_target.f 30 m == some true) = true := by kernel_rfl
  intro m hm
  have := List.all_eq_true.1 h m hm
  simpa using this
theorem names_good : ∀ m ∈ mNames, Sp.nameB m.data.toList = true ∧ m.size ≤ 100 := by
  have h : (mNames.all fun m => Sp.nameB m.data.toList && decide (m.size ≤ 100)) = true := by kernel_rfl
  intro m hm
  have := List.all_eq_true.1 h m hm
  simpa using this
theorem vals_good : ∀ m ∈ mVals, Sp.valB m.data.toList = true ∧ m.size ≤ 100 := by
  have h : (mVals.all fun m => Sp.valB m.data.toList && decide (m.size ≤ 100)) = true := by kernel_rfl
  intro m hm
  have := List.all_eq_true.1 h m hm
  simpa using this
theorem made_small {fs : List S32} (h : MFs fs) : smallF fs = true := by
  unfold smallF
  rw [List.all_eq_true]
  intro x hx
  have h1 := (names_good _ (h x hx).1).2
  have h2 := (vals_good _ (h x hx).2).2
  simp only [Bool.and_eq_true, decide_eq_true_eq]
  omega
theorem made_good {fs : List S32} (h : MFs fs) : fs.any badF = false := by
  rw [List.any_eq_false]
  intro x hx
  unfold badF
  rw [(names_good _ (h x hx).1).1, (vals_good _ (h x hx).2).1]
  decide
theorem Right_made {m t : ByteArray} {mi : Int} {fs : List S32} (hm : m ∈ mMeths) (ht : t ∈ mTargs) (hi : mi = 0 ∨ mi = 1) (hl : fs.length ≤ 6) (hf : MFs fs) (k : Nat) (hk : 30 ≤ k) :
    head_Right.f k m t 0 ⟨#[]⟩ mi fs false = some true := by
  have hms := meths_good m hm
  unfold head_Right.f
  rw [if_pos (made_small hf), if_neg (by omega), if_neg (by omega), if_neg (by omega), if_neg (by rw [made_good hf]; decide), if_neg (by decide), name_f (by omega), hms.1]
  simp only [Option.bind_some]
  rw [if_pos trivial, at_rounds (head_target.mono t) hk (targs_good t ht)]
  simp only [Option.bind_some]
  rw [if_pos trivial, if_pos trivial, toList_data]
  rfl
end Go.Proofs.YtljppmpigijgaaaDoor.P
namespace Go.Proofs.YtljppmpigijgaaaDoor.P
open Go.RowKit Go.Proofs.YtljppmpigijgaaaDoorW.PrintWords Go.Proofs.YtljppmpigijgaaaDoorW.PrintLast Go.Proofs.YtljppmpigijgaaaDoorW.PrintMore
def mStats : List Int := [200, 404, 304, 204, 100, 599, 503]
def mReas : List ByteArray := [(⟨#[79, 75]⟩ : ByteArray), (⟨#[]⟩ : ByteArray), (⟨#[78, 111, 116, 32, 70, 111, 117, 110, 100]⟩ : ByteArray), (⟨#[97, 9, 98]⟩ : ByteArray)]
theorem rd_mem {l : List Int} {i : Int} (h0 : 0 ≤ i) (h : i < (l.length : Int)) : rd l i ∈ l := by
  have hl : i.toNat < l.length := by omega
  unfold rd
  rw [List.getD_eq_getElem?_getD, List.getElem?_eq_getElem hl]
  exact List.getElem_mem hl
theorem Made_true (l : List Int) (hl : l.length ≤ 281474976710656) (hw : ∀ x ∈ l, (Lit.int .u8 x).wf = true) :
    ∃ st s mi fs, (∀ k, 20 ≤ k → lockagelaw06_Made.f k l true = some (⟨#[]⟩, ⟨#[]⟩, st, s, mi, fs)) ∧ st ∈ mStats ∧ s ∈ mReas ∧ (mi = 0 ∨ mi = 1) ∧ fs.length ≤ 6 ∧ MFs fs := by
  obtain ⟨r1, p1, a1, b1⟩ := Pick_ok l hl hw 0 2 (by omega) (by omega)
  obtain ⟨r2, p2, a2, b2⟩ := Pick_ok l hl hw 1 7 (by omega) (by omega)
  obtain ⟨r3, p3, a3, b3⟩ := Pick_ok l hl hw 2 4 (by omega) (by omega)
  obtain ⟨fs, j, h1, h2, h3⟩ := Head_j0 l hl hw ⟨#[]⟩ ⟨#[]⟩ (rdOf ByteArray.empty mReas r3) (rd mStats r2) (wrap64 (1 - r1)) 3 20 (by omega) (by omega)
  refine ⟨rd mStats r2, rdOf ByteArray.empty mReas r3, wrap64 (1 - r1), fs, fun k hk => at_rounds (lockagelaw06_Made.mono l true) hk ?_, rd_mem a2 b2, rdOf_mem a3 b3, ?_, h2, h3⟩
  · unfold lockagelaw06_Made.f lockagelaw06_Maker_Head.f
    have q1 : lockagelaw06_Maker_Pick.f l 0 2 = some (r1, 1) := p1
    have q2 : lockagelaw06_Maker_Pick.f l 1 7 = some (r2, 2) := p2
    have q3 : lockagelaw06_Maker_Pick.f l 2 4 = some (r3, 3) := p3
    have q4 : lockagelaw06_Maker_Head.j0 20 l 3 ⟨#[]⟩ ⟨#[]⟩ (rd mStats r2) (rdOf ByteArray.empty mReas r3) (wrap64 (1 - r1)) = some (⟨#[]⟩, ⟨#[]⟩, rd mStats r2, rdOf ByteArray.empty mReas r3, wrap64 (1 - r1), fs, j) := h1
    rw [q1]
    simp only [Option.bind_some]
    rw [if_pos trivial, q2]
    simp only [Option.bind_some, List.length_cons, List.length_nil, Nat.zero_add, Nat.reduceAdd]
    rw [if_pos a2, if_pos b2, q3]
    simp only [Option.bind_some]
    rw [if_pos a3, if_pos b3]
    simp only [mStats, mReas] at q4
    rw [q4]
    rfl
  · have : r1 = 0 ∨ r1 = 1 := by omega
    rcases this with rfl | rfl
    · exact .inr (by unfold wrap64; omega)
    · exact .inl (by unfold wrap64; omega)
end Go.Proofs.YtljppmpigijgaaaDoor.P
namespace Go.Proofs.YtljppmpigijgaaaDoor.P
open Go.RowKit Go.Proofs.YtljppmpigijgaaaDoorW.PrintWords Go.Proofs.YtljppmpigijgaaaDoorW.PrintLast Go.Proofs.YtljppmpigijgaaaDoorW.PrintMore
def hasT (l : List ByteArray) (c : List UInt8) : Bool := l.any fun x => c == x.toList
def cClose : List UInt8 := [99, 108, 111, 115, 101]
def cKeep : List UInt8 := [107, 101, 101, 112, 45, 97, 108, 105, 118, 101]
theorem hasT_drop (l : List ByteArray) (c : List UInt8) (j : Nat) (h : j < l.length) : hasT (l.drop j) c = (c == l[j].toList || hasT (l.drop (j + 1)) c) := by
  unfold hasT
  rw [List.drop_eq_getElem_cons h, List.any_cons]
theorem hasT_append (a b : List ByteArray) (c : List UInt8) : hasT (a ++ b) c = (hasT a c || hasT b c) := by unfold hasT; rw [List.any_append]
theorem rdOf_at {l : List ByteArray} {j : Nat} (h : j < l.length) : rdOf ByteArray.empty l (j : Int) = l[j] := by simp [rdOf, h]
theorem wrap_up (n : Nat) (h : n < 8796093022208) : wrap64 ((n : Int) + 1) = ((n + 1 : Nat) : Int) := by unfold wrap64; omega
theorem Index_at (l : List ByteArray) (a : ByteArray) (hl : l.length < 8796093022208) (d : Nat) :
    ∀ (i k : Nat), l.length - i = d → d + 1 ≤ k → ∃ r : Int, slices_Index_string_string.l0 k l a (l.length : Int) i = some r ∧ decide (r ≥ 0) = hasT (l.drop i) a.toList := by
  induction d with
  | zero =>
    intro i k hd hk
    obtain ⟨k, rfl⟩ : ∃ j, k = j + 1 := ⟨k - 1, by omega⟩
    unfold slices_Index_string_string.l0
    rw [if_neg (by omega), List.drop_of_length_le (by omega)]
    exact ⟨-1, rfl, rfl⟩
  | succ d ih =>
    intro i k hd hk
    obtain ⟨k, rfl⟩ : ∃ j, k = j + 1 := ⟨k - 1, by omega⟩
    have hi : i < l.length := by omega
    unfold slices_Index_string_string.l0
    rw [if_pos (by omega), if_pos (by omega), if_pos (by omega), rdOf_at hi, hasT_drop _ _ _ hi]
    by_cases c : a.toList = l[i].toList
    · rw [if_pos c]
      refine ⟨_, rfl, ?_⟩
      rw [c]
      simp
    · rw [if_neg c, wrap_up i (by omega)]
      obtain ⟨r, h1, h2⟩ := ih (i + 1) k (by omega) (by omega)
      refine ⟨r, h1, ?_⟩
      rw [h2]
      simp [c]
theorem Contains_ev (l : List ByteArray) (a : ByteArray) (hl : l.length < 8796093022208) (k : Nat) (hk : l.length + 1 ≤ k) : slices_Contains_string_string.f k l a = some (hasT l a.toList) := by
  obtain ⟨r, h1, h2⟩ := Index_at l a hl l.length 0 k (by omega) hk
  unfold slices_Contains_string_string.f slices_Index_string_string.f
  rw [show slices_Index_string_string.l0 k l a (l.length : Int) 0 = some r from h1]
  simp only [Option.bind_some]
  rw [h2]
  rfl
def allI (V : List ByteArray) : List ByteArray := V.flatMap itemsB
theorem allI_drop (V : List ByteArray) (i : Nat) (h : i < V.length) : allI (V.drop i) = itemsB V[i] ++ allI (V.drop (i + 1)) := by
  unfold allI
  rw [List.drop_eq_getElem_cons h, List.flatMap_cons]
def stayS (V : List ByteArray) (mi : Int) : Bool := !hasT (allI V) cClose && (mi == 1 || hasT (allI V) cKeep)
theorem Stays_l0 (V : List ByteArray) (hV : ∀ v ∈ V, v.size ≤ 1000) (hl : V.length ≤ 100) (a b : ByteArray) (c : Int) (s : ByteArray) (mi : Int) (fs : List S32) (d : Nat) :
    ∀ (i k : Nat) (acc : List ByteArray), V.length - i = d → i ≤ V.length → acc.length ≤ 1001 * i → d + 110000 ≤ k →
      frame_Stays.l0 k acc V (V.length : Int) i a b c s mi fs = some (!hasT (acc ++ allI (V.drop i)) cClose && (mi == 1 || hasT (acc ++ allI (V.drop i)) cKeep)) := by
  induction d with
  | zero =>
    intro i k acc hd hi ha hk
    obtain ⟨k, rfl⟩ : ∃ j, k = j + 1 := ⟨k - 1, by omega⟩
    have e : allI (V.drop i) = [] := by rw [List.drop_of_length_le (by omega)]; rfl
    unfold frame_Stays.l0
    rw [if_neg (by omega), e, List.append_nil, Contains_ev acc _ (by omega) k (by omega), Contains_ev acc _ (by omega) k (by omega)]
    simp only [Option.bind_some]
    have e1 : (⟨#[99, 108, 111, 115, 101]⟩ : ByteArray).toList = cClose := by rw [toList_data]; rfl
    have e2 : (⟨#[107, 101, 101, 112, 45, 97, 108, 105, 118, 101]⟩ : ByteArray).toList = cKeep := by rw [toList_data]; rfl
    rw [e1, e2]
    cases hasT acc cClose with
    | true => rw [if_pos rfl]; rfl
    | false =>
      rw [if_neg (by decide)]
      by_cases h : mi = 1
      · rw [if_pos h]; simp [h]
      · rw [if_neg h]; simp [h]
  | succ d ih =>
    intro i k acc hd hi ha hk
    obtain ⟨k, rfl⟩ : ∃ j, k = j + 1 := ⟨k - 1, by omega⟩
    have hlt : i < V.length := by omega
    have hs := hV V[i] (List.getElem_mem hlt)
    have hle := items_le V[i]
    unfold frame_Stays.l0
    rw [if_pos (by omega), if_pos (by omega), if_pos (by omega), rdOf_at hlt]
    unfold field_Items.f
    rw [if_pos (by omega)]
    simp only [Option.bind_some]
    rw [if_pos (by omega), wrap_up i (by omega), ih (i + 1) k _ (by omega) (by omega) (by rw [List.length_append]; omega) (by omega), allI_drop V i hlt, List.append_assoc]
theorem Stays_ev (V : List ByteArray) (hV : ∀ v ∈ V, v.size ≤ 1000) (hl : V.length ≤ 100) (a b : ByteArray) (c : Int) (s : ByteArray) (mi : Int) (fs : List S32) (k : Nat) (hk : 120000 ≤ k)
    (hG : field_Get.f k fs (⟨#[67, 111, 110, 110, 101, 99, 116, 105, 111, 110]⟩ : ByteArray) = some V) : frame_Stays.f k a b c s mi fs = some (stayS V mi) := by
  unfold frame_Stays.f
  rw [hG]
  simp only [Option.bind_some]
  have := Stays_l0 V hV hl a b c s mi fs V.length 0 k [] (by omega) (by omega) (by simp) (by omega)
  simpa [stayS] using this
/-- What the reference reads of a text are its items. -/
def ItemsOk (V : List ByteArray) (B : Nat) : Prop := ∀ v ∈ V, v.size ≤ 1000 ∧ ∀ k, B ≤ k → lockageref05_Items.f k v = some (itemsB v)
theorem RStays_l3 (V its : List ByteArray) (hits : its.length ≤ 2000) (i : Nat) (hi : i ≤ 1000) (R : Bool) (K : Nat) (B : Bool) (hR : ∀ k, K ≤ k → lockageref07_Stays.l2 k V B ((i + 1 : Nat) : Int) = some R) (d : Nat) :
    ∀ (j k : Nat) (b : Bool), its.length - j = d → (b && !hasT (its.drop j) cClose) = B → d + 1 + K ≤ k → lockageref07_Stays.l3 k V b i its j = some R := by
  induction d with
  | zero =>
    intro j k b hd hb hk
    obtain ⟨k, rfl⟩ : ∃ j, k = j + 1 := ⟨k - 1, by omega⟩
    unfold lockageref07_Stays.l3
    rw [if_neg (by omega), wrap_up i (by omega)]
    rw [List.drop_of_length_le (by omega)] at hb
    have : b = B := by rw [← hb]; simp [hasT]
    rw [this]
    exact hR k (by omega)
  | succ d ih =>
    intro j k b hd hb hk
    obtain ⟨k, rfl⟩ : ∃ j, k = j + 1 := ⟨k - 1, by omega⟩
    have hj : j < its.length := by omega
    unfold lockageref07_Stays.l3
    rw [if_pos (by omega), if_pos (by omega), rdOf_at hj, wrap_up j (by omega)]
    rw [hasT_drop _ _ _ hj] at hb
    by_cases c : its[j].toList = [99, 108, 111, 115, 101]
    · rw [if_pos c]
      refine ih (j + 1) k false (by omega) ?_ (by omega)
      rw [← hb, c]
      simp [cClose]
    · rw [if_neg c]
      refine ih (j + 1) k b (by omega) ?_ (by omega)
      have c' : (cClose == its[j].toList) = false := by simp only [beq_eq_false_iff_ne]; exact fun e => c e.symm
      rw [← hb, c', Bool.false_or]
theorem RStays_l2 (V : List ByteArray) (B : Nat) (hV : ItemsOk V B) (hl : V.length ≤ 100) (d : Nat) :
    ∀ (i k : Nat) (b : Bool), V.length - i = d → i ≤ V.length → d * 3000 + B + 10 ≤ k → lockageref07_Stays.l2 k V b i = some (b && !hasT (allI (V.drop i)) cClose) := by
  induction d with
  | zero =>
    intro i k b hd hi hk
    obtain ⟨k, rfl⟩ : ∃ j, k = j + 1 := ⟨k - 1, by omega⟩
    unfold lockageref07_Stays.l2
    rw [if_neg (by omega), List.drop_of_length_le (by omega)]
    simp [allI, hasT]
  | succ d ih =>
    intro i k b hd hi hk
    obtain ⟨k, rfl⟩ : ∃ j, k = j + 1 := ⟨k - 1, by omega⟩
    have hlt : i < V.length := by omega
    have hv := hV V[i] (List.getElem_mem hlt)
    have hle := items_le V[i]
    have hm : (d + 1) * 3000 = d * 3000 + 3000 := Nat.succ_mul _ _
    unfold lockageref07_Stays.l2
    rw [if_pos (by omega), if_pos (by omega), rdOf_at hlt, hv.2 k (by omega)]
    simp only [Option.bind_some]
    rw [allI_drop V i hlt, hasT_append]
    refine RStays_l3 V (itemsB V[i]) (by omega) i (by omega) _ (d * 3000 + B + 10) (b && !hasT (itemsB V[i]) cClose) (fun k' hk' => ?_) (itemsB V[i]).length 0 k b (by omega) (by simp) (by omega)
    rw [ih (i + 1) k' _ (by omega) (by omega) hk', Bool.not_or, Bool.and_assoc]
theorem RStays_l1 (V its : List ByteArray) (hits : its.length ≤ 2000) (i : Nat) (hi : i ≤ 1000) (R : Bool) (K : Nat) (B : Bool) (hR : ∀ k, K ≤ k → lockageref07_Stays.l0 k V B ((i + 1 : Nat) : Int) = some R) (d : Nat) :
    ∀ (j k : Nat) (b : Bool), its.length - j = d → (b || hasT (its.drop j) cKeep) = B → d + 1 + K ≤ k → lockageref07_Stays.l1 k V b i its j = some R := by
  induction d with
  | zero =>
    intro j k b hd hb hk
    obtain ⟨k, rfl⟩ : ∃ j, k = j + 1 := ⟨k - 1, by omega⟩
    unfold lockageref07_Stays.l1
    rw [if_neg (by omega), wrap_up i (by omega)]
    rw [List.drop_of_length_le (by omega)] at hb
    have : b = B := by rw [← hb]; simp [hasT]
    rw [this]
    exact hR k (by omega)
  | succ d ih =>
    intro j k b hd hb hk
    obtain ⟨k, rfl⟩ : ∃ j, k = j + 1 := ⟨k - 1, by omega⟩
    have hj : j < its.length := by omega
    unfold lockageref07_Stays.l1
    rw [if_pos (by omega), if_pos (by omega), rdOf_at hj, wrap_up j (by omega)]
    rw [hasT_drop _ _ _ hj] at hb
    by_cases c : its[j].toList = [107, 101, 101, 112, 45, 97, 108, 105, 118, 101]
    · rw [if_pos c]
      refine ih (j + 1) k true (by omega) ?_ (by omega)
      rw [← hb, c]
      simp [cKeep]
    · rw [if_neg c]
      refine ih (j + 1) k b (by omega) ?_ (by omega)
      have c' : (cKeep == its[j].toList) = false := by simp only [beq_eq_false_iff_ne]; exact fun e => c e.symm
      rw [← hb, c', Bool.false_or]
theorem RStays_l0 (V : List ByteArray) (B N : Nat) (hV : ItemsOk V B) (hl : V.length ≤ 100) (hN : V.length * 3000 + B + 20 ≤ N) (d : Nat) :
    ∀ (i k : Nat) (b : Bool), V.length - i = d → i ≤ V.length → d * 3000 + N ≤ k → lockageref07_Stays.l0 k V b i = some ((b || hasT (allI (V.drop i)) cKeep) && !hasT (allI V) cClose) := by
  induction d with
  | zero =>
    intro i k b hd hi hk
    obtain ⟨k, rfl⟩ : ∃ j, k = j + 1 := ⟨k - 1, by omega⟩
    unfold lockageref07_Stays.l0
    rw [if_neg (by omega), List.drop_of_length_le (by omega)]
    have hk2 : V.length * 3000 + B + 10 ≤ k := by
      rw [Nat.zero_mul] at hk
      clear hd hi hl
      generalize V.length * 3000 = Q at hN ⊢
      omega
    have := RStays_l2 V B hV hl V.length 0 k b (Nat.sub_zero _) (Nat.zero_le _) hk2
    rw [List.drop_zero] at this
    rw [show lockageref07_Stays.l2 k V b 0 = _ from this]
    simp [allI, hasT]
  | succ d ih =>
    intro i k b hd hi hk
    obtain ⟨k, rfl⟩ : ∃ j, k = j + 1 := ⟨k - 1, by omega⟩
    have hlt : i < V.length := by omega
    have hv := hV V[i] (List.getElem_mem hlt)
    have hle := items_le V[i]
    have hm : (d + 1) * 3000 = d * 3000 + 3000 := Nat.succ_mul _ _
    unfold lockageref07_Stays.l0
    rw [if_pos (by omega), if_pos (by omega), rdOf_at hlt, hv.2 k (by omega)]
    simp only [Option.bind_some]
    rw [allI_drop V i hlt, hasT_append]
    refine RStays_l1 V (itemsB V[i]) (by omega) i (by omega) _ (d * 3000 + N) (b || hasT (itemsB V[i]) cKeep) (fun k' hk' => ?_) (itemsB V[i]).length 0 k b (by omega) (by simp) (by omega)
    rw [ih (i + 1) k' _ (by omega) (by omega) hk', Bool.or_assoc]
theorem RStays_ev (V : List ByteArray) (B : Nat) (hV : ItemsOk V B) (hl : V.length ≤ 100) (a b : ByteArray) (c : Int) (s : ByteArray) (mi : Int) (fs : List S32) (k : Nat) (hk : 800000 + B ≤ k)
    (hG : lockageref05_Get.f k fs (⟨#[99, 111, 110, 110, 101, 99, 116, 105, 111, 110]⟩ : ByteArray) = some V) : lockageref07_Stays.f k a b c s mi fs = some (stayS V mi) := by
  unfold lockageref07_Stays.f
  rw [hG]
  simp only [Option.bind_some]
  have hk2 : V.length * 3000 + (V.length * 3000 + B + 20) ≤ k := by omega
  have := RStays_l0 V B (V.length * 3000 + B + 20) hV hl (Nat.le_refl _) V.length 0 k (mi == 1) (Nat.sub_zero _) (Nat.zero_le _) hk2
  rw [List.drop_zero] at this
  rw [show lockageref07_Stays.l0 k V (mi == 1) 0 = _ from this]
  unfold stayS
  rw [Bool.and_comm]
end Go.Proofs.YtljppmpigijgaaaDoor.P
namespace Go.Proofs.YtljppmpigijgaaaDoor.P
open Go.RowKit Go.Proofs.YtljppmpigijgaaaDoorW.PrintWords Go.Proofs.YtljppmpigijgaaaDoorW.PrintLast Go.Proofs.YtljppmpigijgaaaDoorW.PrintMore
theorem getS_congr (l : List S32) {a b : ByteArray} (h : Sp.lower a.data.toList = Sp.lower b.data.toList) : getS l a = getS l b := by unfold getS; rw [h]
theorem getS_mem {l : List S32} (hf : MFs l) (a : ByteArray) : ∀ v ∈ getS l a, v ∈ mVals := by
  intro v hv
  unfold getS at hv
  obtain ⟨x, hx, rfl⟩ := List.mem_map.1 hv
  exact (hf x (List.mem_filter.1 hx).1).2
/-- What fields tell: of Transfer-Encoding's texts, Content-Length's, the minor number, and the first length's number. -/
def toldS (T C : List ByteArray) (mi n e : Int) : Int × Int × Int :=
  match T, C with
  | [], [] => (0, 0, 0)
  | [], [_] => if e = 1 then (0, 0, 22) else if e = 0 then (if n > 4000 then (0, 0, 2) else (2, n, 0)) else (0, 0, 2)
  | [], _ :: _ :: _ => (0, 0, 22)
  | [t], [] => if mi = 0 then (0, 0, 22) else if Sp.lower t.data.toList = [99, 104, 117, 110, 107, 101, 100] then (3, 0, 0) else (0, 0, 22)
  | [_], _ :: _ => (0, 0, 22)
  | _ :: _ :: _, _ => (0, 0, 22)
theorem sized_j1 (k : Nat) (n : Int) (x : Bool) : frame_sized.j1 (k + 1) n x = if x = true then some (0, 0, 2) else some (2, n, 0) := by unfold frame_sized.j1; rfl
theorem told_j1 (k : Nat) (x : Bool) : frame_told.j1 (k + 1) x = if x = true then some (0, 0, 22) else some (3, 0, 0) := by unfold frame_told.j1; rfl
theorem told_f (k : Nat) (a b : ByteArray) (c : Int) (d : ByteArray) (mi : Int) (fs : List S32) (T C : List ByteArray) (n e : Int) (hk : 1000 ≤ k)
    (hT : field_Get.f k fs (⟨#[84, 114, 97, 110, 115, 102, 101, 114, 45, 69, 110, 99, 111, 100, 105, 110, 103]⟩ : ByteArray) = some T)
    (hC : field_Get.f k fs (⟨#[67, 111, 110, 116, 101, 110, 116, 45, 76, 101, 110, 103, 116, 104]⟩ : ByteArray) = some C)
    (hs : ∀ t ∈ T, t.size ≤ 9223372036854775806) (hP : ∀ c0 r, C = c0 :: r → ∀ k, 400 ≤ k → num_Parse.f k c0 10 = some (n, e)) :
    frame_told.f k a b c d mi fs = some (toldS T C mi n e) := by
  unfold frame_told.f
  rw [hT, hC]
  simp only [Option.bind_some]
  obtain ⟨k, rfl⟩ : ∃ j, k = j + 3 := ⟨k - 3, by omega⟩
  match T, C with
  | [], [] => rfl
  | [], [c0] =>
    have hp := hP c0 [] rfl (k + 2) (by omega)
    simp only [List.length_cons, List.length_nil, Nat.zero_add]
    rw [if_pos (by rfl)]
    unfold frame_told.j0
    dsimp only
    rw [if_neg (by decide), if_pos (by rfl)]
    unfold frame_sized.f
    rw [if_pos (by simp)]
    have hr : rdOf ByteArray.empty [c0] 0 = c0 := rfl
    rw [hr, hp]
    simp only [Option.bind_some, List.length_cons, List.length_nil, Nat.zero_add]
    rw [if_neg (by decide)]
    unfold frame_sized.j0
    dsimp only
    show _ = some (if e = 1 then ((0, 0, 22) : Int × Int × Int) else if e = 0 then (if n > 4000 then (0, 0, 2) else (2, n, 0)) else (0, 0, 2))
    by_cases h1 : e = 1
    · rw [if_pos (by simpa using h1), if_pos h1]
      rfl
    · rw [if_neg (by simpa using h1), if_neg h1]
      by_cases h0 : e = 0
      · rw [if_pos h0, if_pos h0, sized_j1]
        by_cases h4 : n > 4000
        · rw [if_pos (decide_eq_true h4), if_pos h4]
          rfl
        · rw [decide_eq_false h4, if_neg (by decide), if_neg h4]
          rfl
      · have hb : (e != 0) = true := by simpa using h0
        rw [if_neg h0, if_neg h0, hb, sized_j1, if_pos rfl]
        rfl
  | [], c0 :: c1 :: r =>
    have hp := hP c0 _ rfl (k + 2) (by omega)
    have h2 : ((c0 :: c1 :: r).length : Int) > 1 := by simp only [List.length_cons]; omega
    rw [if_pos (by rfl)]
    have e0 : (((c0 :: c1 :: r).length : Int) == 0) = false := by simp only [List.length_cons, beq_eq_false_iff_ne]; omega
    rw [e0]
    unfold frame_told.j0
    dsimp only
    rw [if_neg (by decide), if_pos (by rfl)]
    unfold frame_sized.f
    have hr : rdOf ByteArray.empty (c0 :: c1 :: r) 0 = c0 := rfl
    rw [if_pos (by omega), hr, hp]
    simp only [Option.bind_some]
    rw [if_pos h2]
    unfold frame_sized.j0
    dsimp only
    rw [if_pos (decide_eq_true h2)]
    rfl
  | [t], [] =>
    have ht := hs t (List.mem_cons_self)
    simp only [List.length_cons, List.length_nil, Nat.zero_add]
    rw [if_neg (by decide)]
    unfold frame_told.j0
    dsimp only
    rw [if_neg (by decide), if_neg (by simp), if_neg (by simp), if_neg (by simp)]
    show _ = some (if mi = 0 then ((0, 0, 22) : Int × Int × Int) else if Sp.lower t.data.toList = [99, 104, 117, 110, 107, 101, 100] then (3, 0, 0) else (0, 0, 22))
    by_cases h0 : mi = 0
    · rw [if_pos h0, if_pos h0, told_j1, if_pos (by simpa using h0)]
    · rw [if_neg h0, if_neg h0, if_pos (by simp)]
      have hr : rdOf ByteArray.empty [t] 0 = t := rfl
      rw [hr, lower_f ht]
      simp only [Option.bind_some]
      rw [toList_data, told_j1]
      by_cases h1 : Sp.lower t.data.toList = [99, 104, 117, 110, 107, 101, 100]
      · rw [if_pos h1]
        exact if_neg (by simpa using h1)
      · rw [if_neg h1]
        exact if_pos (by simpa using h1)
  | [t], c0 :: r =>
    rw [if_neg (by simp)]
    unfold frame_told.j0
    dsimp only
    rw [if_neg (by decide), if_neg (by simp), if_neg (by simp), if_pos (by simp only [List.length_cons]; omega), told_j1, if_pos (decide_eq_true (by simp only [List.length_cons]; omega))]
    rfl
  | t :: t1 :: r, C =>
    rw [if_neg (by simp only [List.length_cons]; omega)]
    unfold frame_told.j0
    dsimp only
    rw [if_neg (by decide), if_neg (by simp only [List.length_cons]; omega), if_pos (by simp only [List.length_cons]; omega), told_j1, if_pos (decide_eq_true (by simp only [List.length_cons]; omega))]
    rfl
end Go.Proofs.YtljppmpigijgaaaDoor.P
namespace Go.Proofs.YtljppmpigijgaaaDoor.P
open Go.RowKit Go.Proofs.YtljppmpigijgaaaDoorW.PrintWords Go.Proofs.YtljppmpigijgaaaDoorW.PrintLast Go.Proofs.YtljppmpigijgaaaDoorW.PrintMore
set_option maxRecDepth 100000 in
theorem awakeM_at (k : Nat) (hk : 300 ≤ k) : lockagelaw07_awake.f k = some true := at_rounds lockagelaw07_awake.mono hk (by kernel_rfl)
theorem names_ref : ∀ m ∈ mNames, ∀ k, 400 ≤ k → lockageref05_Name.f k m = some true := by
  have h : (mNames.all fun m => lockageref05_Name.f 400 m == some true) = true := by kernel_rfl
  intro m hm k hk
  have := List.all_eq_true.1 h m hm
  exact at_rounds (lockageref05_Name.mono m) hk (by simpa using this)
theorem vals_ref : ∀ m ∈ mVals, ∀ k, 400 ≤ k → lockageref05_Value.f k m = some true := by
  have h : (mVals.all fun m => lockageref05_Value.f 400 m == some true) = true := by kernel_rfl
  intro m hm k hk
  have := List.all_eq_true.1 h m hm
  exact at_rounds (lockageref05_Value.mono m) hk (by simpa using this)
theorem meths_ref : ∀ m ∈ mMeths, ∀ k, 400 ≤ k → lockageref05_Name.f k m = some true := by
  have h : (mMeths.all fun m => lockageref05_Name.f 400 m == some true) = true := by kernel_rfl
  intro m hm k hk
  have := List.all_eq_true.1 h m hm
  exact at_rounds (lockageref05_Name.mono m) hk (by simpa using this)
theorem targs_ref : ∀ m ∈ mTargs, ∀ k, 400 ≤ k → lockageref06_target.f k m = some true := by
  have h : (mTargs.all fun m => lockageref06_target.f 400 m == some true) = true := by kernel_rfl
  intro m hm k hk
  have := List.all_eq_true.1 h m hm
  exact at_rounds (lockageref06_target.mono m) hk (by simpa using this)
theorem meths_some : ∀ m ∈ mMeths, ∀ t ∈ mTargs, (m ++ t).toList ≠ [] ∧ m.toList ≠ [] ∧ m.size + t.size ≤ 1000 := by
  have h : (mMeths.all fun m => mTargs.all fun t => !((m ++ t).data.toList.isEmpty) && (!(m.data.toList.isEmpty) && decide (m.size + t.size ≤ 1000))) = true := by kernel_rfl
  intro m hm t ht
  have := List.all_eq_true.1 (List.all_eq_true.1 h m hm) t ht
  rw [toList_data, toList_data]
  simp only [Bool.and_eq_true, Bool.not_eq_true', List.isEmpty_eq_false_iff, decide_eq_true_eq] at this
  exact this
theorem vals_items : ∀ m ∈ mVals, ∀ k, 400 ≤ k → lockageref05_Items.f k m = some (itemsB m) := by
  have h : (mVals.all fun m => match lockageref05_Items.f 400 m with | some l => (l.map fun x => x.data.toList) == ((itemsB m).map fun x => x.data.toList) | none => false) = true := by kernel_rfl
  intro m hm k hk
  have := List.all_eq_true.1 h m hm
  generalize hg : lockageref05_Items.f 400 m = g at this
  cases g with
  | none => simp at this
  | some l =>
    have e : l.map (fun x => x.data.toList) = (itemsB m).map (fun x => x.data.toList) := by simpa using this
    have el : l = itemsB m := by
      refine List.map_inj_right (f := fun x : ByteArray => x.data.toList) (fun a b hab => H.ba_ext hab) |>.1 e
    rw [el] at hg
    exact at_rounds (lockageref05_Items.mono m) hk hg
theorem parse_both : ∀ v ∈ mVals, ∃ n e : Int, (∀ k, 400 ≤ k → num_Parse.f k v 10 = some (n, e)) ∧ (∀ k, 400 ≤ k → lockageref03_Parse.f k v 10 = some (n, e)) := by
  have h : (mVals.all fun v => match num_Parse.f 400 v 10 with | some p => lockageref03_Parse.f 400 v 10 == some p | none => false) = true := by kernel_rfl
  intro v hv
  have := List.all_eq_true.1 h v hv
  generalize hg : num_Parse.f 400 v 10 = g at this
  cases g with
  | none => simp at this
  | some p =>
    have e : lockageref03_Parse.f 400 v 10 = some p := by simpa using this
    exact ⟨p.1, p.2, fun k hk => at_rounds (num_Parse.mono v 10) hk hg, fun k hk => at_rounds (lockageref03_Parse.mono v 10) hk e⟩
theorem fields_ref (fs : List S32) (hf : MFs fs) (hl : fs.length ≤ 20) (d : Nat) : ∀ (i k : Nat), fs.length - i = d → i ≤ fs.length → d + 500 ≤ k → lockageref06_fields.l0 k fs i = some true := by
  induction d with
  | zero =>
    intro i k hd hi hk
    obtain ⟨k, rfl⟩ : ∃ j, k = j + 1 := ⟨k - 1, by omega⟩
    unfold lockageref06_fields.l0
    rw [if_neg (by omega), decide_eq_true (by omega : (fs.length : Int) ≤ 20)]
  | succ d ih =>
    intro i k hd hi hk
    obtain ⟨k, rfl⟩ : ∃ j, k = j + 1 := ⟨k - 1, by omega⟩
    have hlt : i < fs.length := by omega
    have hx : rd_T32 fs (i : Int) = fs[i] := by simp [rd_T32, hlt]
    have hm := hf fs[i] (List.getElem_mem hlt)
    unfold lockageref06_fields.l0
    rw [if_pos (by omega), if_pos (by omega), hx, names_ref _ hm.1 k (by omega), vals_ref _ hm.2 k (by omega)]
    simp only [Option.bind_some]
    rw [if_pos trivial, if_pos trivial, wrap_up i (by omega)]
    exact ih (i + 1) k (by omega) (by omega) (by omega)
theorem fields_ref_f (fs : List S32) (hf : MFs fs) (hl : fs.length ≤ 20) (k : Nat) (hk : 600 ≤ k) : lockageref06_fields.f k fs = some true := by
  unfold lockageref06_fields.f
  exact fields_ref fs hf hl fs.length 0 k (by omega) (by omega) (by omega)
/-- A head by numbers, of a request or of an answer. -/
def IsMade (a : Bool) (m t : ByteArray) (st : Int) (s : ByteArray) (mi : Int) (fs : List S32) : Prop :=
  (if a = true then m = ⟨#[]⟩ ∧ t = ⟨#[]⟩ ∧ st ∈ mStats ∧ s ∈ mReas else m ∈ mMeths ∧ t ∈ mTargs ∧ st = 0 ∧ s = ⟨#[]⟩) ∧ (mi = 0 ∨ mi = 1) ∧ fs.length ≤ 6 ∧ MFs fs
theorem stats_in : ∀ st ∈ mStats, 100 ≤ st ∧ st ≤ 599 := by decide
theorem reas_head : ∀ s ∈ mReas, ∀ k, 400 ≤ k → head_reason.f k s = some true := by
  have h : (mReas.all fun m => head_reason.f 400 m == some true) = true := by kernel_rfl
  intro m hm k hk
  have := List.all_eq_true.1 h m hm
  exact at_rounds (head_reason.mono m) hk (by simpa using this)
theorem reas_ref : ∀ s ∈ mReas, ∀ k, 400 ≤ k → lockageref06_reason.f k s = some true := by
  have h : (mReas.all fun m => lockageref06_reason.f 400 m == some true) = true := by kernel_rfl
  intro m hm k hk
  have := List.all_eq_true.1 h m hm
  exact at_rounds (lockageref06_reason.mono m) hk (by simpa using this)
theorem Right_both {a : Bool} {m t : ByteArray} {st : Int} {s : ByteArray} {mi : Int} {fs : List S32} (h : IsMade a m t st s mi fs) (b : Bool) (k : Nat) (hk : 1000 ≤ k) :
    head_Right.f k m t st s mi fs b = some (a == b) ∧ lockageref06_Right.f k m t st s mi fs b = some (a == b) := by
  obtain ⟨h1, hmi, hl, hf⟩ := h
  obtain ⟨k, rfl⟩ : ∃ j, k = j + 1 := ⟨k - 1, by omega⟩
  have hH : head_Right.f (k + 1) m t st s mi fs b = (if b = true then (if m.size + t.size ≤ 9223372036854775807 then (if (m ++ t).toList = ([] : List UInt8) then ((head_status.f st).bind fun s' => if s' = true then head_reason.f (k + 1) s else some false) else some false) else none) else ((field_Name.f m).bind fun n => if n = true then ((head_target.f (k + 1) t).bind fun t' => if t' = true then (if st = 0 then some (s.toList == ([] : List UInt8)) else some false) else some false) else some false)) := by
    unfold head_Right.f
    rw [if_pos (made_small hf), if_neg (by omega), if_neg (by omega), if_neg (by omega), if_neg (by rw [made_good hf]; decide)]
  have hR : lockageref06_Right.f (k + 1) m t st s mi fs b = (if b = true then (if m.toList = ([] : List UInt8) then (if t.toList = ([] : List UInt8) then (if st ≥ 100 then (if st ≤ 599 then ((lockageref06_reason.f k s).bind fun t212 => (some t212)) else (some false)) else (some false)) else (some false)) else (some false)) else ((lockageref05_Name.f k m).bind fun t213 => (if t213 = true then ((lockageref06_target.f k t).bind fun t214 => (if t214 = true then (if st = 0 then (some (s.toList == ([] : List UInt8))) else (some false)) else (some false))) else (some false)))) := by
    unfold lockageref06_Right.f
    rw [if_neg (by omega), if_neg (by omega), fields_ref_f fs hf (by omega) (k + 1) (by omega)]
    simp only [Option.bind_some]
    unfold lockageref06_Right.j0
    dsimp only
    rw [if_neg (by decide)]
  have em : (⟨#[]⟩ : ByteArray).toList = [] := by rw [toList_data]
  rw [hH, hR]
  clear hH hR
  cases a with
  | true =>
    rw [if_pos rfl] at h1
    obtain ⟨rfl, rfl, hst, hs⟩ := h1
    have hst' := stats_in st hst
    have hst2 : head_status.f st = some true := by
      unfold head_status.f
      rw [if_pos (by omega), decide_eq_true (by omega : st ≤ 599)]
    cases b with
    | true =>
      refine ⟨(if_pos rfl).trans ?_, (if_pos rfl).trans ?_⟩
      · rw [if_pos (by decide), if_pos (by rw [toList_data]; rfl), hst2]
        simp only [Option.bind_some]
        rw [if_pos trivial, reas_head s hs (k + 1) (by omega)]
        rfl
      · rw [if_pos em, if_pos em, if_pos (by omega), if_pos (by omega), reas_ref s hs k (by omega)]
        rfl
    | false =>
      have n1 : lockageref05_Name.f k (⟨#[]⟩ : ByteArray) = some false := at_rounds (lockageref05_Name.mono _) (show 5 ≤ k by omega) (by kernel_rfl)
      refine ⟨(if_neg (by decide)).trans ?_, (if_neg (by decide)).trans ?_⟩
      · rw [name_f (by decide)]
        rfl
      · rw [n1]
        rfl
  | false =>
    rw [if_neg (by decide)] at h1
    obtain ⟨hm, ht, rfl, rfl⟩ := h1
    obtain ⟨s1, s2, s3⟩ := meths_some m hm t ht
    cases b with
    | true =>
      refine ⟨(if_pos rfl).trans ?_, (if_pos rfl).trans ?_⟩
      · rw [if_pos (by omega), if_neg s1]
        rfl
      · rw [if_neg s2]
        rfl
    | false =>
      have hms := meths_good m hm
      refine ⟨(if_neg (by decide)).trans ?_, (if_neg (by decide)).trans ?_⟩
      · rw [name_f (by omega), hms.1]
        simp only [Option.bind_some]
        rw [if_pos trivial, at_rounds (head_target.mono t) (show 30 ≤ k + 1 by omega) (targs_good t ht)]
        simp only [Option.bind_some]
        rw [if_pos trivial, if_pos trivial, em]
        rfl
      · rw [meths_ref m hm k (by omega)]
        simp only [Option.bind_some]
        rw [if_pos trivial, targs_ref t ht k (by omega)]
        simp only [Option.bind_some]
        rw [if_pos trivial, if_pos trivial, em]
        rfl
end Go.Proofs.YtljppmpigijgaaaDoor.P
namespace Go.Proofs.YtljppmpigijgaaaDoor.P
open Go.RowKit Go.Proofs.YtljppmpigijgaaaDoorW.PrintWords Go.Proofs.YtljppmpigijgaaaDoorW.PrintLast Go.Proofs.YtljppmpigijgaaaDoorW.PrintMore
theorem framed_f (k : Nat) (a b : ByteArray) (c : Int) (d : ByteArray) (mi : Int) (fs : List S32) (T C : List ByteArray) (n e : Int) (hk : 5000 ≤ k)
    (hT : lockageref05_Get.f k fs (⟨#[116, 114, 97, 110, 115, 102, 101, 114, 45, 101, 110, 99, 111, 100, 105, 110, 103]⟩ : ByteArray) = some T)
    (hC : lockageref05_Get.f k fs (⟨#[99, 111, 110, 116, 101, 110, 116, 45, 108, 101, 110, 103, 116, 104]⟩ : ByteArray) = some C)
    (hs : ∀ t ∈ T, t.size ≤ 1000) (hP : ∀ c0 r, C = c0 :: r → ∀ k, 400 ≤ k → lockageref03_Parse.f k c0 10 = some (n, e)) :
    lockageref07_framed.f k a b c d mi fs = some (toldS T C mi n e) := by
  unfold lockageref07_framed.f
  rw [hT, hC]
  simp only [Option.bind_some]
  obtain ⟨k, rfl⟩ : ∃ j, k = j + 2 := ⟨k - 2, by omega⟩
  have j1 : lockageref07_framed.j0 (k + 2) true = some (0, 0, 22) := by unfold lockageref07_framed.j0; rfl
  have j0 : lockageref07_framed.j0 (k + 2) false = some (3, 0, 0) := by unfold lockageref07_framed.j0; rfl
  match T, C with
  | [], [] => rfl
  | [], [c0] =>
    have hp := hP c0 [] rfl (k + 2) (by omega)
    have hr : rdOf ByteArray.empty [c0] 0 = c0 := rfl
    rw [if_neg (by simp), if_pos (by simp)]
    unfold lockageref07_length.f
    rw [if_pos (by simp), if_pos (by simp), hr, hp]
    simp only [Option.bind_some]
    show _ = some (if e = 1 then ((0, 0, 22) : Int × Int × Int) else if e = 0 then (if n > 4000 then (0, 0, 2) else (2, n, 0)) else (0, 0, 2))
    by_cases h1 : e = 1
    · rw [if_pos h1, if_pos h1]
      rfl
    · rw [if_neg h1, if_neg h1]
      by_cases h0 : e = 0
      · rw [if_pos h0, if_pos h0]
        by_cases h4 : n > 4000
        · rw [if_pos h4, if_pos h4]
          rfl
        · rw [if_neg h4, if_neg h4]
          rfl
      · rw [if_neg h0, if_neg h0]
        rfl
  | [], c0 :: c1 :: r =>
    rw [if_neg (by simp), if_pos (by simp only [List.length_cons]; omega)]
    unfold lockageref07_length.f
    rw [if_neg (by simp only [List.length_cons]; omega)]
    rfl
  | [t], [] =>
    have ht := hs t (List.mem_cons_self)
    have hr : rdOf ByteArray.empty [t] 0 = t := rfl
    rw [if_pos (by simp), if_pos (by simp), if_neg (by simp)]
    show _ = some (if mi = 0 then ((0, 0, 22) : Int × Int × Int) else if Sp.lower t.data.toList = [99, 104, 117, 110, 107, 101, 100] then (3, 0, 0) else (0, 0, 22))
    by_cases h0 : mi = 0
    · rw [if_pos h0, if_pos h0, j1]
    · rw [if_neg h0, if_neg h0, if_pos (by simp), hr, Low_ev t (by omega) (k + 2) (by omega)]
      simp only [Option.bind_some]
      rw [toList_data]
      by_cases h1 : Sp.lower t.data.toList = [99, 104, 117, 110, 107, 101, 100]
      · rw [if_pos h1, h1]
        exact j0
      · rw [if_neg h1]
        have : (Sp.lower t.data.toList != ([99, 104, 117, 110, 107, 101, 100] : List UInt8)) = true := by simpa using h1
        show lockageref07_framed.j0 (k + 2) (Sp.lower t.data.toList != _) = _
        rw [this, j1]
  | [t], c0 :: r =>
    rw [if_pos (by simp), if_pos (by simp), if_pos (by simp only [List.length_cons]; omega), j1]
    rfl
  | t :: t1 :: r, C =>
    rw [if_pos (by simp only [List.length_cons]; omega), if_neg (by simp only [List.length_cons]; omega), j1]
    rfl
theorem toldS_zero (T C : List ByteArray) (mi n e : Int) : (toldS T C mi n e).1 = 0 → (toldS T C mi n e).2.1 = 0 := by
  match T, C with
  | [], [] => exact fun _ => rfl
  | [], [c0] =>
    show (if e = 1 then ((0, 0, 22) : Int × Int × Int) else if e = 0 then (if n > 4000 then (0, 0, 2) else (2, n, 0)) else (0, 0, 2)).1 = 0 → (if e = 1 then ((0, 0, 22) : Int × Int × Int) else if e = 0 then (if n > 4000 then (0, 0, 2) else (2, n, 0)) else (0, 0, 2)).2.1 = 0
    by_cases h1 : e = 1
    · rw [if_pos h1]
      exact fun _ => rfl
    · rw [if_neg h1]
      by_cases h0 : e = 0
      · rw [if_pos h0]
        by_cases h4 : n > 4000
        · rw [if_pos h4]
          exact fun _ => rfl
        · rw [if_neg h4]
          exact fun h => absurd (show (2 : Int) = 0 from h) (by decide)
      · rw [if_neg h0]
        exact fun _ => rfl
  | [], c0 :: c1 :: r => exact fun _ => rfl
  | [t], [] =>
    show (if mi = 0 then ((0, 0, 22) : Int × Int × Int) else if Sp.lower t.data.toList = [99, 104, 117, 110, 107, 101, 100] then (3, 0, 0) else (0, 0, 22)).1 = 0 → (if mi = 0 then ((0, 0, 22) : Int × Int × Int) else if Sp.lower t.data.toList = [99, 104, 117, 110, 107, 101, 100] then (3, 0, 0) else (0, 0, 22)).2.1 = 0
    by_cases h1 : mi = 0
    · rw [if_pos h1]
      exact fun _ => rfl
    · rw [if_neg h1]
      by_cases h0 : Sp.lower t.data.toList = [99, 104, 117, 110, 107, 101, 100]
      · rw [if_pos h0]
        exact fun _ => rfl
      · rw [if_neg h0]
        exact fun _ => rfl
  | [t], c0 :: r => exact fun _ => rfl
  | t :: t1 :: r, C => exact fun _ => rfl
theorem or_req (x : Int × Int × Int) (hz : x.1 = 0 → x.2.1 = 0) : ∃ y, frame_or.f x.1 x.2.1 x.2.2 1 = some y ∧ (if x.2.2 = 0 then (if x.1 = 0 then (some (1, x.2.1, x.2.2)) else (some (x.1, x.2.1, x.2.2))) else (some (x.1, x.2.1, x.2.2))) = some y := by
  obtain ⟨a, b, c⟩ := x
  simp only at hz ⊢
  unfold frame_or.f
  by_cases h : c = 0
  · rw [if_pos h, if_pos h]
    by_cases h2 : a = 0
    · rw [if_pos h2, if_pos (by simp [h2, hz h2])]
      exact ⟨_, rfl, rfl⟩
    · rw [if_neg h2, if_neg (by simp [h2])]
      exact ⟨_, rfl, rfl⟩
  · rw [if_neg h, if_neg h]
    exact ⟨_, rfl, rfl⟩
theorem ans_both (x : Int × Int × Int) (hz : x.1 = 0 → x.2.1 = 0) (f : Bool) (k : Nat) : ∃ y, frame_Answer.j0 (k + 1) x.2.2 f x.1 x.2.1 = some y ∧ (if x.2.2 = 0 then lockageref07_Answer.j0 (k + 1) f x.1 x.2.1 else some (x.1, x.2.1, x.2.2)) = some y := by
  obtain ⟨a, b, c⟩ := x
  simp only at hz ⊢
  unfold frame_Answer.j0 lockageref07_Answer.j0 frame_or.f
  dsimp only
  by_cases h : c = 0
  · subst h
    cases f with
    | true => exact ⟨_, rfl, rfl⟩
    | false =>
      by_cases h2 : a = 0
      · have h3 := hz h2
        subst h2 h3
        exact ⟨_, rfl, rfl⟩
      · refine ⟨(a, b, 0), ?_, ?_⟩
        · simp [h2]
        · simp [h2]
  · refine ⟨(a, b, c), ?_, ?_⟩
    · simp [h]
    · simp [h]
theorem same_made {a : Bool} {m t : ByteArray} {st : Int} {s : ByteArray} {mi : Int} {fs : List S32} (h : IsMade a m t st s mi fs) (meth : ByteArray) (k : Nat) (hk : 1000000 ≤ k) :
    lockagelaw07_same.f k m t st s mi fs meth = some true := by
  obtain ⟨k, rfl⟩ : ∃ j, k = j + 1 := ⟨k - 1, by omega⟩
  have hR := fun b => Right_both h b (k + 1) (by omega)
  obtain ⟨_, _, hlen, hf⟩ := h
  have hsm : ∀ x ∈ fs, x.f0.size ≤ 100 := fun x hx => (names_good _ (hf x hx).1).2
  have G := fun (q : ByteArray) (hq : q.size ≤ 100) => field_Get_ev fs q (by omega) (by omega) (fun x hx => by have := hsm x hx; omega) (k + 1) (by omega)
  have RG := fun (q : ByteArray) (hq : q.size ≤ 100) => RefGet_ev 100 (by decide) fs q (by omega) hq hsm (k + 1) (by omega)
  obtain ⟨T, hT⟩ : ∃ T, T = getS fs (⟨#[116, 114, 97, 110, 115, 102, 101, 114, 45, 101, 110, 99, 111, 100, 105, 110, 103]⟩ : ByteArray) := ⟨_, rfl⟩
  obtain ⟨C, hC⟩ : ∃ C, C = getS fs (⟨#[99, 111, 110, 116, 101, 110, 116, 45, 108, 101, 110, 103, 116, 104]⟩ : ByteArray) := ⟨_, rfl⟩
  obtain ⟨V, hV⟩ : ∃ V, V = getS fs (⟨#[99, 111, 110, 110, 101, 99, 116, 105, 111, 110]⟩ : ByteArray) := ⟨_, rfl⟩
  have eT : getS fs (⟨#[84, 114, 97, 110, 115, 102, 101, 114, 45, 69, 110, 99, 111, 100, 105, 110, 103]⟩ : ByteArray) = T := by rw [hT]; exact getS_congr _ (by decide)
  have eC : getS fs (⟨#[67, 111, 110, 116, 101, 110, 116, 45, 76, 101, 110, 103, 116, 104]⟩ : ByteArray) = C := by rw [hC]; exact getS_congr _ (by decide)
  have eV : getS fs (⟨#[67, 111, 110, 110, 101, 99, 116, 105, 111, 110]⟩ : ByteArray) = V := by rw [hV]; exact getS_congr _ (by decide)
  have gT := G (⟨#[84, 114, 97, 110, 115, 102, 101, 114, 45, 69, 110, 99, 111, 100, 105, 110, 103]⟩ : ByteArray) (by decide)
  have gC := G (⟨#[67, 111, 110, 116, 101, 110, 116, 45, 76, 101, 110, 103, 116, 104]⟩ : ByteArray) (by decide)
  have gV := G (⟨#[67, 111, 110, 110, 101, 99, 116, 105, 111, 110]⟩ : ByteArray) (by decide)
  have rT := RG (⟨#[116, 114, 97, 110, 115, 102, 101, 114, 45, 101, 110, 99, 111, 100, 105, 110, 103]⟩ : ByteArray) (by decide)
  have rC := RG (⟨#[99, 111, 110, 116, 101, 110, 116, 45, 108, 101, 110, 103, 116, 104]⟩ : ByteArray) (by decide)
  have rV := RG (⟨#[99, 111, 110, 110, 101, 99, 116, 105, 111, 110]⟩ : ByteArray) (by decide)
  rw [eT] at gT
  rw [eC] at gC
  rw [eV] at gV
  rw [← hT] at rT
  rw [← hC] at rC
  rw [← hV] at rV
  have mT : ∀ v ∈ T, v ∈ mVals := by rw [hT]; exact getS_mem hf _
  have mC : ∀ v ∈ C, v ∈ mVals := by rw [hC]; exact getS_mem hf _
  have mV : ∀ v ∈ V, v ∈ mVals := by rw [hV]; exact getS_mem hf _
  have lV : V.length ≤ 6 := by rw [hV]; exact Nat.le_trans (getS_length _ _) hlen
  obtain ⟨n, e, hP1, hP2⟩ : ∃ n e : Int, (∀ c0 r, C = c0 :: r → ∀ k, 400 ≤ k → num_Parse.f k c0 10 = some (n, e)) ∧ (∀ c0 r, C = c0 :: r → ∀ k, 400 ≤ k → lockageref03_Parse.f k c0 10 = some (n, e)) := by
    cases C with
    | nil => exact ⟨0, 0, (fun c0 r h => nomatch h), (fun c0 r h => nomatch h)⟩
    | cons c0 r =>
      obtain ⟨n, e, h1, h2⟩ := parse_both c0 (mC c0 (List.mem_cons_self))
      exact ⟨n, e, (fun c0' r' h => by injection h with h _; subst h; exact h1), (fun c0' r' h => by injection h with h _; subst h; exact h2)⟩
  have told := told_f (k + 1) m t st s mi fs T C n e (by omega) gT gC (fun v hv => by have := (vals_good v (mT v hv)).2; omega) hP1
  have framed := framed_f (k + 1) m t st s mi fs T C n e (by omega) rT rC (fun v hv => by have := (vals_good v (mT v hv)).2; omega) hP2
  have hz := toldS_zero T C mi n e
  generalize toldS T C mi n e = X at told framed hz
  have hS := Stays_ev V (fun v hv => by have := (vals_good v (mV v hv)).2; omega) (by omega) m t st s mi fs (k + 1) (by omega) gV
  have hS2 := RStays_ev V 400 (fun v hv => ⟨by have := (vals_good v (mV v hv)).2; omega, vals_items v (mV v hv)⟩) (by omega) m t st s mi fs (k + 1) (by omega) rV
  have hq : ∃ y, frame_Request.f (k + 1) m t st s mi fs = some y ∧ lockageref07_Request.f (k + 1) m t st s mi fs = some y := by
    obtain ⟨r1, r2⟩ := hR false
    unfold frame_Request.f lockageref07_Request.f
    rw [r1, r2]
    simp only [Option.bind_some]
    cases a with
    | true => exact ⟨_, rfl, rfl⟩
    | false =>
      rw [if_pos (by decide), if_pos (by decide), told, framed]
      simp only [Option.bind_some]
      obtain ⟨y, h1, h2⟩ := or_req X hz
      rw [h1]
      exact ⟨y, rfl, h2⟩
  have ha : ∃ y, frame_Answer.f (k + 1) m t st s mi fs meth = some y ∧ lockageref07_Answer.f (k + 1) m t st s mi fs meth = some y := by
    obtain ⟨r1, r2⟩ := hR true
    unfold frame_Answer.f lockageref07_Answer.f
    rw [r1, r2]
    simp only [Option.bind_some]
    cases a with
    | false => exact ⟨_, rfl, rfl⟩
    | true =>
      rw [if_pos (by decide), if_pos (by decide), told, framed]
      simp only [Option.bind_some]
      by_cases c1 : meth.toList = ([72, 69, 65, 68] : List UInt8)
      · rw [if_pos c1, if_pos c1]
        exact ans_both X hz true k
      · rw [if_neg c1, if_neg c1]
        by_cases c2 : st < 200
        · rw [if_pos c2, if_pos c2]
          exact ans_both X hz true k
        · rw [if_neg c2, if_neg c2]
          by_cases c3 : st = 204
          · rw [if_pos c3, if_pos c3]
            exact ans_both X hz true k
          · rw [if_neg c3, if_neg c3]
            exact ans_both X hz _ k
  obtain ⟨y, q1, q2⟩ := hq
  obtain ⟨z, a1, a2⟩ := ha
  unfold lockagelaw07_same.f
  rw [q1, q2, a1, a2, hS, hS2]
  simp
theorem FrameMade_pure : lockagelaw07_FrameMade.Pure := by
  intro l a1 h1 h2 hw h3
  obtain ⟨m, t, mi, fs, hM, hm, ht, hmi, hlen, hf⟩ := Made_false l (by omega) hw
  obtain ⟨st, s, mi', fs', hM', hst, hs, hmi', hlen', hf'⟩ := Made_true l (by omega) hw
  have S1 := fun meth k hk => same_made (a := false) ⟨⟨hm, ht, rfl, rfl⟩, hmi, hlen, hf⟩ meth k hk
  have S2 := fun meth k hk => same_made (a := true) ⟨⟨rfl, rfl, hst, hs⟩, hmi', hlen', hf'⟩ meth k hk
  have L : ∀ (q : List ByteArray) (d i k : Nat), q.length ≤ 10 → q.length - i = d → 1000001 + d ≤ k → lockagelaw07_FrameMade.l0 k q (q.length : Int) i m t 0 ⟨#[]⟩ mi fs ⟨#[]⟩ ⟨#[]⟩ st s mi' fs' = some true := by
    intro q d
    induction d with
    | zero =>
      intro i k hq hd hk
      obtain ⟨k, rfl⟩ : ∃ j, k = j + 1 := ⟨k - 1, by omega⟩
      unfold lockagelaw07_FrameMade.l0
      rw [if_neg (by omega), awakeM_at k (by omega)]
      rfl
    | succ d ih =>
      intro i k hq hd hk
      obtain ⟨k, rfl⟩ : ∃ j, k = j + 1 := ⟨k - 1, by omega⟩
      unfold lockagelaw07_FrameMade.l0
      rw [if_pos (by omega), if_pos (by omega), if_pos (by omega), S1 _ k (by omega)]
      simp only [Option.bind_some]
      rw [if_pos trivial, S2 _ k (by omega)]
      simp only [Option.bind_some]
      rw [if_pos trivial, wrap_up i (by omega)]
      exact ih (i + 1) k hq (by omega) (by omega)
  obtain ⟨K, hK⟩ : ∃ K : Nat, 1000100 ≤ K := ⟨_, Nat.le_refl _⟩
  refine ⟨K, ?_⟩
  unfold lockagelaw07_FrameMade.f
  rw [hM K (by omega), hM' K (by omega)]
  simp only [Option.bind_some]
  exact L [(⟨#[71, 69, 84]⟩ : ByteArray), (⟨#[72, 69, 65, 68]⟩ : ByteArray), a1] 3 0 K (by simp) (by simp) (by omega)
end Go.Proofs.YtljppmpigijgaaaDoor.P
