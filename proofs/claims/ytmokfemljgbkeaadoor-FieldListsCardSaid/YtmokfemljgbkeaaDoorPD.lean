/- The law FieldLists in plain Lean: what the printed functions come to. -/
import Derived.Test.YtmokfemljgbkeaaDoorPC
import Derived.Lib.LazyBuf
namespace Go.Proofs.YtmokfemljgbkeaaDoor.P
open Go.RowKit Go.Proofs.YtmokfemljgbkeaaDoorW.PrintWords Go.Proofs.YtmokfemljgbkeaaDoorW.PrintLast Go.Proofs.YtmokfemljgbkeaaDoorW.PrintMore

theorem wrap_next (n : Nat) (h : n < 8796093022208) : wrap64 ((n : Int) + 1) = ((n + 1 : Nat) : Int) := by unfold wrap64; omega
theorem bt_low {x : ByteArray} {i : Nat} (h : i < x.size) : bt x (i : Int) = ((x.data.toList[i]'(by rw [data_length]; exact h)).toNat : Int) := by
  unfold bt
  rw [dif_pos (by simpa using h)]
  rfl
theorem one_byte (c : UInt8) : (strOfNums [(c.toNat : Int)]) = ⟨#[c]⟩ := by
  have := Lib.Lz.strOfNums_map [c]
  simpa using this
theorem low_num (c : UInt8) (h : 65 ≤ (c.toNat : Int)) (h' : (c.toNat : Int) ≤ 90) : ((c.toNat : Int) + 32) % 256 = ((Sp.lowC c).toNat : Int) := by
  unfold Sp.lowC
  have h1 : (65 : UInt8) ≤ c := by rw [UInt8.le_iff_toNat_le]; simp; omega
  have h2 : c ≤ (90 : UInt8) := by rw [UInt8.le_iff_toNat_le]; simp; omega
  rw [if_pos (by simp [h1, h2]), UInt8.toNat_add]
  simp
theorem low_same (c : UInt8) (h : ¬ (65 ≤ (c.toNat : Int) ∧ (c.toNat : Int) ≤ 90)) : Sp.lowC c = c := by
  unfold Sp.lowC
  rw [if_neg]
  intro e
  simp only [Bool.and_eq_true, decide_eq_true_eq] at e
  obtain ⟨h1, h2⟩ := e
  rw [UInt8.le_iff_toNat_le] at h1 h2
  simp at h1 h2
  omega
theorem Low_at (x : ByteArray) (hx : x.size ≤ 9223372036854775806) :
    ∀ (d i k : Nat) (acc : ByteArray), x.size - i = d → i ≤ x.size → acc.size ≤ i → d + 1 ≤ k → lockageref05_Lower.l0 k x acc i = some ⟨(acc.data.toList ++ Sp.lower (x.data.toList.drop i)).toArray⟩
  | d, i, 0, acc, hd, hi, hacc, hk => by omega
  | d, i, k + 1, acc, hd, hi, hacc, hk => by
    unfold lockageref05_Lower.l0
    by_cases hlt : i < x.size
    · rw [if_pos (by omega), if_pos (by omega)]
      have hl : i < x.data.toList.length := by rw [data_length]; exact hlt
      have ew : wrap64 ((i : Int) + 1) = ((i + 1 : Nat) : Int) := by unfold wrap64; omega
      have ed : x.data.toList.drop i = x.data.toList[i] :: x.data.toList.drop (i + 1) := List.drop_eq_getElem_cons hl
      have go : ∀ c : UInt8, Sp.lowC (x.data.toList[i]) = c → (if acc.size + (strOfNums [(c.toNat : Int)]).size ≤ 9223372036854775807 then lockageref05_Lower.l0 k x (acc ++ strOfNums [(c.toNat : Int)]) (wrap64 ((i : Int) + 1)) else none) = some ⟨(acc.data.toList ++ Sp.lower (x.data.toList.drop i)).toArray⟩ := by
        intro c hc
        have s1 : (⟨#[c]⟩ : ByteArray).size = 1 := rfl
        rw [one_byte, if_pos (by omega), ew, Low_at x hx (d - 1) (i + 1) k _ (by omega) (by omega) (by rw [ByteArray.size_append]; omega) (by omega), ed]
        have e1 : Sp.lower (x.data.toList[i] :: x.data.toList.drop (i + 1)) = c :: Sp.lower (x.data.toList.drop (i + 1)) := by rw [← hc]; rfl
        have e2 : (acc ++ (⟨#[c]⟩ : ByteArray)).data.toList = acc.data.toList ++ [c] := by rw [ByteArray.data_append]; simp
        rw [e1, e2, List.append_assoc]
        rfl
      rw [bt_low hlt]
      simp only [Option.bind_some]
      by_cases h1 : (x.data.toList[i].toNat : Int) ≥ 65
      · rw [if_pos h1]
        by_cases h2 : (x.data.toList[i].toNat : Int) ≤ 90
        · rw [if_pos h2, low_num _ h1 h2]
          exact go _ rfl
        · rw [if_neg h2]
          exact go _ (low_same _ (by omega))
      · rw [if_neg h1]
        exact go _ (low_same _ (by omega))
    · rw [if_neg (by omega), List.drop_of_length_le (by rw [data_length]; omega)]
      have : (⟨(acc.data.toList ++ Sp.lower []).toArray⟩ : ByteArray) = acc := H.ba_ext (by simp [Sp.lower])
      rw [this]
theorem Low_ev (x : ByteArray) (hx : x.size ≤ 9223372036854775806) (k : Nat) (hk : x.size + 1 ≤ k) : lockageref05_Lower.f k x = some ⟨(Sp.lower x.data.toList).toArray⟩ := by
  unfold lockageref05_Lower.f
  have := Low_at x hx x.size 0 k ⟨#[]⟩ (by omega) (by omega) (by decide) (by omega)
  simpa using this
theorem Strings_at (l : List ByteArray) (hl : l.length < 4398046511104) :
    ∀ (d i k : Nat), l.length - i = d → i ≤ l.length → d + 1 ≤ k → lockageref05_Strings.l0 k l l i = some true
  | d, i, 0, hd, hi, hk => by omega
  | d, i, k + 1, hd, hi, hk => by
    unfold lockageref05_Strings.l0
    by_cases hlt : i < l.length
    · have ew : wrap64 ((i : Int) + 1) = ((i + 1 : Nat) : Int) := by unfold wrap64; omega
      rw [if_pos (by omega), if_pos (by omega), if_pos (by omega), if_pos rfl, ew]
      exact Strings_at l hl (d - 1) (i + 1) k (by omega) (by omega) (by omega)
    · rw [if_neg (by omega)]
theorem Strings_ev (l : List ByteArray) (hl : l.length < 4398046511104) (k : Nat) (hk : l.length + 1 ≤ k) : lockageref05_Strings.f k l l = some true := by
  unfold lockageref05_Strings.f
  rw [if_pos rfl]
  exact Strings_at l hl l.length 0 k (by omega) (by omega) hk
theorem Same_at (l : List S25) (hl : l.length < 4398046511104) :
    ∀ (d i k : Nat), l.length - i = d → i ≤ l.length → d + 1 ≤ k → lockageref05_Same.l0 k l l i = some true
  | d, i, 0, hd, hi, hk => by omega
  | d, i, k + 1, hd, hi, hk => by
    unfold lockageref05_Same.l0
    by_cases hlt : i < l.length
    · have ew : wrap64 ((i : Int) + 1) = ((i + 1 : Nat) : Int) := by unfold wrap64; omega
      rw [if_pos (by omega), if_pos (by omega), if_pos (by omega), if_neg (by simp), ew]
      exact Same_at l hl (d - 1) (i + 1) k (by omega) (by omega) (by omega)
    · rw [if_neg (by omega)]
theorem Same_ev (l : List S25) (hl : l.length < 4398046511104) (k : Nat) (hk : l.length + 1 ≤ k) : lockageref05_Same.f k l l = some true := by
  unfold lockageref05_Same.f
  rw [if_pos rfl]
  exact Same_at l hl l.length 0 k (by omega) (by omega) hk
theorem RefGet_at (B : Nat) (hB : B ≤ 9223372036854775806) (l : List S25) (a : ByteArray) (hl : l.length < 4398046511104) (ha : a.size ≤ B) (hn : ∀ x ∈ l, x.f0.size ≤ B) :
    ∀ (d i k : Nat) (acc : List ByteArray), l.length - i = d → i ≤ l.length → acc.length ≤ i → d + B + 2 ≤ k → lockageref05_Get.l0 k l a acc i = some (acc ++ getS (l.drop i) a)
  | d, i, 0, acc, hd, hi, hacc, hk => by omega
  | d, i, k + 1, acc, hd, hi, hacc, hk => by
    unfold lockageref05_Get.l0
    by_cases hlt : i < l.length
    · rw [if_pos (by omega), if_pos (by omega)]
      have hx : rd_T25 l (i : Int) = l[i] := by simp [rd_T25, hlt]
      have hs := hn l[i] (List.getElem_mem hlt)
      have ew : wrap64 ((i : Int) + 1) = ((i + 1 : Nat) : Int) := by unfold wrap64; omega
      rw [hx, Low_ev _ (by omega) k (by omega), Low_ev a (by omega) k (by omega), ew]
      simp only [Option.bind_some]
      have ed : l.drop i = l[i] :: l.drop (i + 1) := List.drop_eq_getElem_cons hlt
      have eg : getS (l.drop i) a = (if (Sp.lower l[i].f0.data.toList == Sp.lower a.data.toList) = true then [l[i].f1] else []) ++ getS (l.drop (i + 1)) a := by
        rw [ed]
        unfold getS
        rw [List.filter_cons]
        split <;> simp
      rw [eg]
      by_cases c : Sp.lower l[i].f0.data.toList = Sp.lower a.data.toList
      · rw [if_pos (by rw [toList_data, toList_data]; simpa using c), if_pos (by omega), if_pos (by simpa using c)]
        rw [RefGet_at B hB l a hl ha hn (d - 1) (i + 1) k _ (by omega) (by omega) (by simp; omega) (by omega), List.append_assoc]
      · rw [if_neg (by rw [toList_data, toList_data]; simpa using c), if_neg (by simpa using c)]
        rw [RefGet_at B hB l a hl ha hn (d - 1) (i + 1) k _ (by omega) (by omega) (by omega) (by omega), List.nil_append]
    · rw [if_neg (by omega), List.drop_of_length_le (by omega)]
      simp [getS]
theorem RefGet_ev (B : Nat) (hB : B ≤ 9223372036854775806) (l : List S25) (a : ByteArray) (hl : l.length < 4398046511104) (ha : a.size ≤ B) (hn : ∀ x ∈ l, x.f0.size ≤ B) (k : Nat) (hk : l.length + B + 2 ≤ k) :
    lockageref05_Get.f k l a = some (getS l a) := by
  unfold lockageref05_Get.f
  have := RefGet_at B hB l a hl ha hn l.length 0 k [] (by omega) (by omega) (by simp) hk
  simpa using this
theorem any_drop (l1 : List ByteArray) (f : ByteArray) (j : Nat) (h : j < l1.length) : (l1.drop j).any (H.sameName f) = (H.sameName f l1[j] || (l1.drop (j + 1)).any (H.sameName f)) := by
  rw [List.drop_eq_getElem_cons h, List.any_cons]
theorem RefDrop_in (B : Nat) (hB : B ≤ 9223372036854775806) (l : List S25) (l1 : List ByteArray) (hl : l.length < 4398046511104) (hl1 : l1.length < 8796093022208) (hn : ∀ x ∈ l, x.f0.size ≤ B) (hn1 : ∀ x ∈ l1, x.size ≤ B)
    (acc : List S25) (i : Nat) (hi : i < l.length) (hacc : acc.length ≤ i) (K : Nat) (hK : B + 1 ≤ K) (R : List S25)
    (hR : ∀ k, K ≤ k → lockageref05_Drop.l0 k l l1 (acc ++ (if keeps l1 l[i] = true then [l[i]] else [])) ((i + 1 : Nat) : Int) = some R) :
    ∀ (d j k : Nat) (b : Bool), l1.length - j = d → j ≤ l1.length → (b && !((l1.drop j).any (H.sameName l[i].f0))) = keeps l1 l[i] → d + 1 + K ≤ k → lockageref05_Drop.l1 k l l1 acc i b j = some R
  | d, j, 0, b, hd, hj, hb, hk => by omega
  | d, j, k + 1, b, hd, hj, hb, hk => by
    unfold lockageref05_Drop.l1
    have hx : rd_T25 l (i : Int) = l[i] := by simp [rd_T25, hi]
    have hs := hn l[i] (List.getElem_mem hi)
    by_cases hlt : j < l1.length
    · have hy : rdOf ByteArray.empty l1 (j : Int) = l1[j] := by simp [rdOf, hlt]
      have hs1 := hn1 l1[j] (List.getElem_mem hlt)
      rw [if_pos (by omega), hx, hy, wrap_next j (by omega)]
      rw [any_drop _ _ _ hlt] at hb
      cases b with
      | false =>
        rw [if_neg (by decide)]
        exact RefDrop_in B hB l l1 hl hl1 hn hn1 acc i hi hacc K hK R hR (d - 1) (j + 1) k false (by omega) (by omega) (by simpa using hb) (by omega)
      | true =>
        rw [if_pos rfl, if_pos (by omega), if_pos (by omega), Low_ev _ (by omega) k (by omega)]
        simp only [Option.bind_some]
        rw [if_pos (by omega), Low_ev _ (by omega) k (by omega)]
        simp only [Option.bind_some]
        refine RefDrop_in B hB l l1 hl hl1 hn hn1 acc i hi hacc K hK R hR (d - 1) (j + 1) k _ (by omega) (by omega) ?_ (by omega)
        rw [← hb, toList_data, toList_data]
        show ((Sp.lower l[i].f0.data.toList != Sp.lower l1[j].data.toList) && _) = _
        unfold H.sameName
        have : (Sp.lower l[i].f0.data.toList != Sp.lower l1[j].data.toList) = !(Sp.lower l1[j].data.toList == Sp.lower l[i].f0.data.toList) := by
          rw [bne, Bool.beq_comm]
        rw [this]
        simp [Bool.not_or]
    · rw [if_neg (by omega), hx]
      rw [List.drop_of_length_le (by omega)] at hb
      simp only [List.any_nil, Bool.not_false, Bool.and_true] at hb
      have h2 := hR k (by omega)
      rw [← hb] at h2
      cases b with
      | true =>
        rw [if_pos rfl, if_pos (by omega), if_pos (by omega), if_pos (by omega), wrap_next i (by omega)]
        exact h2
      | false =>
        rw [if_neg (by decide), wrap_next i (by omega)]
        simpa using h2
theorem RefDrop_at (B : Nat) (hB : B ≤ 9223372036854775806) (l : List S25) (l1 : List ByteArray) (hl : l.length < 4398046511104) (hl1 : l1.length < 8796093022208) (hn : ∀ x ∈ l, x.f0.size ≤ B) (hn1 : ∀ x ∈ l1, x.size ≤ B) :
    ∀ (d i k : Nat) (acc : List S25), l.length - i = d → i ≤ l.length → acc.length ≤ i → d * (l1.length + 2) + B + 2 ≤ k → lockageref05_Drop.l0 k l l1 acc i = some (acc ++ (l.drop i).filter (keeps l1))
  | d, i, 0, acc, hd, hi, hacc, hk => by omega
  | 0, i, k + 1, acc, hd, hi, hacc, hk => by
    unfold lockageref05_Drop.l0
    rw [if_neg (by omega), List.drop_of_length_le (by omega)]
    simp
  | d + 1, i, k + 1, acc, hd, hi, hacc, hk => by
    have hlt : i < l.length := by omega
    have hm : (d + 1) * (l1.length + 2) = d * (l1.length + 2) + (l1.length + 2) := Nat.succ_mul _ _
    unfold lockageref05_Drop.l0
    rw [if_pos (by omega)]
    have ed : l.drop i = l[i] :: l.drop (i + 1) := List.drop_eq_getElem_cons hlt
    have ef : acc ++ (l.drop i).filter (keeps l1) = (acc ++ (if keeps l1 l[i] = true then [l[i]] else [])) ++ (l.drop (i + 1)).filter (keeps l1) := by
      rw [ed, List.filter_cons]
      split <;> simp
    rw [ef]
    refine RefDrop_in B hB l l1 hl hl1 hn hn1 acc i hlt hacc (d * (l1.length + 2) + B + 2) (by omega) _ (fun k' hk' => ?_) l1.length 0 k true (by omega) (by omega) (by simp [keeps]) (by omega)
    refine RefDrop_at B hB l l1 hl hl1 hn hn1 d (i + 1) k' _ (by omega) (by omega) ?_ hk'
    split <;> simp <;> omega
theorem RefDrop_ev (B : Nat) (hB : B ≤ 9223372036854775806) (l : List S25) (l1 : List ByteArray) (hl : l.length < 4398046511104) (hl1 : l1.length < 8796093022208) (hn : ∀ x ∈ l, x.f0.size ≤ B) (hn1 : ∀ x ∈ l1, x.size ≤ B) (k : Nat) (hk : l.length * (l1.length + 2) + B + 2 ≤ k) :
    lockageref05_Drop.f k l l1 = some (l.filter (keeps l1)) := by
  unfold lockageref05_Drop.f
  have := RefDrop_at B hB l l1 hl hl1 hn hn1 l.length 0 k [] (by omega) (by omega) (by simp) hk
  simpa using this
/-- How many rounds the two lists ask. -/
def need (l : List S25) (l1 : List ByteArray) (B : Nat) : Nat := l.length * (l1.length + 2) + B + l.length + l1.length + 400
theorem Lists_j4 (B : Nat) (hB : B ≤ 9223372036854775806) (l : List S25) (l1 : List ByteArray) (a : ByteArray) (hl : l.length < 4398046511104) (hl1 : l1.length < 8796093022208) (hn : ∀ x ∈ l, x.f0.size ≤ B) (hn1 : ∀ x ∈ l1, x.size ≤ B) (ha : a.size ≤ B) (b : Bool) (hb : b = true ∨ l1.length ≤ 30) (k : Nat) (hk : need l l1 B + 1 ≤ k) :
    lockagelaw05_FieldLists.j4 k l l1 a b = some true := by
  unfold need at hk
  obtain ⟨k, rfl⟩ : ∃ j, k = j + 1 := ⟨k - 1, by omega⟩
  unfold lockagelaw05_FieldLists.j4
  dsimp only
  rw [awake_at k (by omega)]
  simp only [Option.bind_some]
  cases b with
  | true => rw [if_pos rfl]
  | false =>
    have h30 : l1.length ≤ 30 := hb.resolve_left (by decide)
    have hg := getS_length l a
    have hf := List.length_filter_le (keeps l1) l
    have hd : field_Drop.f l l1 = some (l.filter (keeps l1)) := by
      unfold field_Drop.f
      rw [if_pos]
      simp only [smallB, Bool.and_eq_true, List.all_eq_true, decide_eq_true_eq, List.mem_map]
      refine ⟨?_, ?_, hl, by omega⟩
      · rintro x ⟨y, hy, rfl⟩
        have := hn y hy
        omega
      · intro x hx
        have := hn1 x hx
        omega
    rw [if_neg (by decide), if_pos trivial, field_Get_ev l a hl (by omega) (fun x hx => by have := hn x hx; omega) k (by omega), RefGet_ev B hB l a hl ha hn k (by omega)]
    simp only [Option.bind_some]
    rw [Strings_ev _ (by omega) k (by omega)]
    simp only [Option.bind_some]
    rw [if_pos trivial, hd, RefDrop_ev B hB l l1 hl hl1 hn hn1 k (by omega)]
    simp only [Option.bind_some]
    rw [Same_ev _ (by omega) k (by omega)]
    rfl
theorem Lists_j3 (B : Nat) (hB : B ≤ 9223372036854775806) (l : List S25) (l1 : List ByteArray) (a : ByteArray) (hl : l.length < 4398046511104) (hl1 : l1.length < 8796093022208) (hn : ∀ x ∈ l, x.f0.size ≤ B) (hn1 : ∀ x ∈ l1, x.size ≤ B) (ha : a.size ≤ B) (n : Int) (k : Nat) (hk : need l l1 B + 2 ≤ k) :
    lockagelaw05_FieldLists.j3 k l l1 a n = some true := by
  obtain ⟨k, rfl⟩ : ∃ j, k = j + 1 := ⟨k - 1, by omega⟩
  unfold lockagelaw05_FieldLists.j3
  dsimp only
  have h := fun b hb => Lists_j4 B hB l l1 a hl hl1 hn hn1 ha b hb k (by omega)
  split
  · exact h _ (.inl rfl)
  · split
    · exact h _ (.inl rfl)
    · exact h _ (.inr (by omega))
theorem Lists_l1 (B : Nat) (hB : B ≤ 9223372036854775806) (l : List S25) (l1 : List ByteArray) (a : ByteArray) (hl : l.length < 4398046511104) (hl1 : l1.length < 8796093022208) (hn : ∀ x ∈ l, x.f0.size ≤ B) (hn1 : ∀ x ∈ l1, x.size ≤ B) (ha : a.size ≤ B) :
    ∀ (d i k : Nat) (n : Int), l1.length - i = d → i ≤ l1.length → need l l1 B + 3 + d ≤ k → lockagelaw05_FieldLists.l1 k l l1 a n i = some true
  | d, i, 0, n, hd, hi, hk => by omega
  | d, i, k + 1, n, hd, hi, hk => by
    unfold lockagelaw05_FieldLists.l1
    have h := fun n => Lists_j3 B hB l l1 a hl hl1 hn hn1 ha n k (by omega)
    have ew : wrap64 ((i : Int) + 1) = ((i + 1 : Nat) : Int) := by unfold wrap64; omega
    by_cases hlt : i < l1.length
    · rw [if_pos (by omega)]
      split
      · rw [if_pos (by omega), ew]
        exact Lists_l1 B hB l l1 a hl hl1 hn hn1 ha (d - 1) (i + 1) k _ (by omega) (by omega) (by omega)
      · exact h _
    · rw [if_neg (by omega)]
      exact h _
theorem Lists_l0 (B : Nat) (hB : B ≤ 9223372036854775806) (l : List S25) (l1 : List ByteArray) (a : ByteArray) (hl : l.length < 4398046511104) (hl1 : l1.length < 8796093022208) (hn : ∀ x ∈ l, x.f0.size ≤ B) (hn1 : ∀ x ∈ l1, x.size ≤ B) (ha : a.size ≤ B) :
    ∀ (d i k : Nat) (n : Int), l.length - i = d → i ≤ l.length → need l l1 B + 5 + l1.length + d ≤ k → lockagelaw05_FieldLists.l0 k l l1 a n i = some true
  | d, i, 0, n, hd, hi, hk => by omega
  | d, i, k + 1, n, hd, hi, hk => by
    unfold lockagelaw05_FieldLists.l0
    have h : ∀ n, lockagelaw05_FieldLists.j1 k l l1 a n = some true := fun n => by
      obtain ⟨k, rfl⟩ : ∃ j, k = j + 1 := ⟨k - 1, by omega⟩
      unfold lockagelaw05_FieldLists.j1
      dsimp only
      exact Lists_l1 B hB l l1 a hl hl1 hn hn1 ha l1.length 0 k n (by omega) (by omega) (by omega)
    have ew : wrap64 ((i : Int) + 1) = ((i + 1 : Nat) : Int) := by unfold wrap64; omega
    by_cases hlt : i < l.length
    · rw [if_pos (by omega)]
      split
      · rw [if_pos (by omega), ew]
        exact Lists_l0 B hB l l1 a hl hl1 hn hn1 ha (d - 1) (i + 1) k _ (by omega) (by omega) (by omega)
      · exact h _
    · rw [if_neg (by omega)]
      exact h _
theorem FieldLists_ev (B : Nat) (hB : B ≤ 9223372036854775806) (l : List S25) (l1 : List ByteArray) (a : ByteArray) (hl : l.length < 4398046511104) (hl1 : l1.length < 8796093022208) (hn : ∀ x ∈ l, x.f0.size ≤ B) (hn1 : ∀ x ∈ l1, x.size ≤ B) (ha : a.size ≤ B) :
    ∃ k, lockagelaw05_FieldLists.f k l l1 a = some true :=
  ⟨need l l1 B + 5 + l1.length + l.length, Lists_l0 B hB l l1 a hl hl1 hn hn1 ha l.length 0 _ _ (by omega) (by omega) (by omega)⟩
theorem FieldLists_ok (l : List S25) (y0 : l.length * 32 ≤ reachBytes) (w0 : ∀ s ∈ l, s.f0.size ≤ reachBytes ∧ s.f1.size ≤ reachBytes) (l1 : List ByteArray) (y1 : l1.length * 16 ≤ reachBytes) (w1 : ∀ s ∈ l1, s.size ≤ reachBytes) (a : ByteArray) (w2 : a.size ≤ 140737488351232) :
    ∃ k, lockagelaw05_FieldLists.f k l l1 a = some true := by
  have hR : reachBytes = 140737488351232 := by decide
  rw [hR] at y0 w0 y1 w1
  exact FieldLists_ev 140737488351232 (by omega) l l1 a (by omega) (by omega) (fun x hx => (w0 x hx).1) w1 w2
end Go.Proofs.YtmokfemljgbkeaaDoor.P
