/- Several parts together: Several parts together: Plain facts about the plain functions of header fields: small letters, trimming, names, cutting; lists of bytes alone; What the printed functions of header fields come to: names, values, what a name has; plain Lean, no program; What the reference functions of header fields come to: small letters, what a name has; plain Lean, no program; What the reference functions of header fields come to, of any texts: names, blanks, trimming, values; plain Lean, no program; What the reference's Value comes to, of any text; plain Lean, no program; Numbers of sixteen digits: num.Parse and the reference's Parse come to the same, of any text; plain Lean, no program; What field.Parse and the reference's Parse of a field come to, of any text; plain Lean, no program; Bodies in chunks: what chunk.Feed does with whole lines and whole chunks, and with what chunk.Encode has written; plain Lean, no program; Chunks read byte by byte: the plain model, and that chunk.Feed comes to it; plain Lean, no program; chunk.Feed comes to the byte-wise model; plain Lean, no program; The byte-wise model: parts and whole; chunk.Feed at states that are come to; plain Lean, no program; Bytes by numbers (Pieces of chapter 08); plain Lean, no program; The reference's Feed comes to the byte-wise model; same answers true of any chunks and any bytes; plain Lean, no program; The laws ChunkAny, ChunkSmall and ChunkLong answer true; plain Lean, no program. -/
import Derived.Test.YthemlbefkdmegaaDoorHZA
import Derived.Test.YthemlbefkdmegaaDoorHZB
import Derived.Lib.LazyBuf
import Derived.Test.YthemlbefkdmegaaDoorPx6
import Derived.Test.YthemlbefkdmegaaDoorPx5
import Derived.Test.YthemlbefkdmegaaDoorPx7
import Derived.Test.YthemlbefkdmegaaDoorPx2
import Derived.Test.YthemlbefkdmegaaDoorPx4
import Derived.Test.YthemlbefkdmegaaDoorPx8
import Derived.Test.YthemlbefkdmegaaDoorHZD
import Derived.Test.YthemlbefkdmegaaDoorPx20
import Derived.Test.YthemlbefkdmegaaDoorPx10
import Derived.Test.YthemlbefkdmegaaDoorPx9
import Derived.Test.YthemlbefkdmegaaDoorPx3
import Derived.Test.YthemlbefkdmegaaDoorPx11
import Derived.Test.YthemlbefkdmegaaDoorPx12
import Derived.Test.YthemlbefkdmegaaDoorPx13
namespace Go.Proofs.YthemlbefkdmegaaDoor.Sp
theorem lowC_idem (c : UInt8) : lowC (lowC c) = lowC c := by
  unfold lowC
  by_cases h : 65 ≤ c ∧ c ≤ 90
  · have h1 : (decide (65 ≤ c) && decide (c ≤ 90)) = true := by simp [h]
    have h2 : ¬ (65 ≤ c + 32 ∧ c + 32 ≤ 90) := by
      obtain ⟨a, b⟩ := h
      rw [UInt8.le_iff_toNat_le] at a b
      rw [UInt8.le_iff_toNat_le, UInt8.le_iff_toNat_le, UInt8.toNat_add]
      simp at a b ⊢
      omega
    simp only [h1, if_true]
    rw [if_neg (by simpa using h2)]
  · have h1 : (decide (65 ≤ c) && decide (c ≤ 90)) = false := by simpa using h
    simp only [h1, Bool.false_eq_true, if_false]
theorem lower_idem (l : List UInt8) : lower (lower l) = lower l := by
  unfold lower
  rw [List.map_map]
  exact List.map_congr_left fun c _ => lowC_idem c
theorem lower_length (l : List UInt8) : (lower l).length = l.length := by unfold lower; rw [List.length_map]

theorem dropWhile_last {p : UInt8 → Bool} : ∀ {l : List UInt8} {b : UInt8}, (l.dropWhile p).getLast? = some b → l.getLast? = some b
  | [], _, h => by simp at h
  | c :: l, b, h => by
    rw [List.dropWhile_cons] at h
    split at h
    · have := dropWhile_last h
      rw [List.getLast?_cons, this]
      rfl
    · exact h
theorem right_fix {cs l : List UInt8} (h : ∀ b, l.getLast? = some b → cs.contains b = false) : Lib.trimRightS l cs = l := by
  unfold Lib.trimRightS
  rw [← List.head?_reverse] at h
  have e : l.reverse.dropWhile (cs.contains ·) = l.reverse := by
    cases hr : l.reverse with
    | nil => rfl
    | cons b t =>
      rw [hr] at h
      rw [List.dropWhile_cons, if_neg (by rw [h b rfl]; exact Bool.false_ne_true)]
  rw [e, List.reverse_reverse]
theorem right_last {cs l : List UInt8} {b : UInt8} (h : (Lib.trimRightS l cs).getLast? = some b) : cs.contains b = false := by
  unfold Lib.trimRightS at h
  rw [List.getLast?_reverse] at h
  have := List.head?_dropWhile_not (cs.contains ·) l.reverse
  rw [h] at this
  exact this
theorem left_idem (cs l : List UInt8) : Lib.trimLeftS (Lib.trimLeftS l cs) cs = Lib.trimLeftS l cs := by
  unfold Lib.trimLeftS
  cases h : l.dropWhile (cs.contains ·) with
  | nil => rfl
  | cons b t =>
    have := List.head?_dropWhile_not (cs.contains ·) l
    rw [h] at this
    rw [List.dropWhile_cons, if_neg]
    intro e
    have h2 : cs.contains b = false := this
    rw [h2] at e
    exact Bool.false_ne_true e
theorem trim_idem (l : List UInt8) : trim (trim l) = trim l := by
  unfold trim Lib.trimS
  rw [right_fix (l := Lib.trimLeftS (Lib.trimRightS l [32, 9]) [32, 9])]
  · exact left_idem _ _
  · intro b hb
    exact right_last (dropWhile_last hb)
theorem dropWhile_snoc {p : UInt8 → Bool} {c : UInt8} (hc : p c = true) : ∀ l : List UInt8, (l ++ [c]).dropWhile p = if (l.dropWhile p).isEmpty then [] else l.dropWhile p ++ [c]
  | [] => by simp [hc]
  | b :: l => by
    rw [List.cons_append, List.dropWhile_cons, List.dropWhile_cons]
    split
    · exact dropWhile_snoc hc l
    · simp
theorem trim_blank {c : UInt8} (hc : ([32, 9] : List UInt8).contains c = true) (l : List UInt8) : trim (c :: l) = trim l := by
  unfold trim Lib.trimS
  have e : Lib.trimRightS (c :: l) [32, 9] = if (Lib.trimRightS l [32, 9]).isEmpty then [] else c :: Lib.trimRightS l [32, 9] := by
    unfold Lib.trimRightS
    rw [List.reverse_cons, dropWhile_snoc (p := (([32, 9] : List UInt8).contains ·)) hc, List.isEmpty_reverse]
    split
    · rfl
    · rw [List.reverse_append]
      rfl
  rw [e]
  split
  · rename_i h
    rw [List.isEmpty_iff] at h
    rw [h]
  · unfold Lib.trimLeftS
    rw [List.dropWhile_cons, if_pos hc]
theorem trim_length (l : List UInt8) : (trim l).length ≤ l.length := by
  unfold trim Lib.trimS Lib.trimLeftS Lib.trimRightS
  have h1 := (List.dropWhile_sublist (l := (l.reverse.dropWhile (([32, 9] : List UInt8).contains ·)).reverse) (([32, 9] : List UInt8).contains ·)).length_le
  have h2 := (List.dropWhile_sublist (l := l.reverse) (([32, 9] : List UInt8).contains ·)).length_le
  rw [List.length_reverse] at h1 h2
  exact Nat.le_trans h1 h2
theorem nameC_not {c : UInt8} (h : nameC c = true) : c ≠ 58 := by rintro rfl; exact absurd h (by decide)
theorem cutL_length (c : UInt8) (l : List UInt8) : (cutL c l).length ≤ l.length := by
  unfold cutL
  split
  · exact (List.takeWhile_sublist _).length_le
  · exact Nat.le_refl _
theorem cutR_length (c : UInt8) (l : List UInt8) : (cutR c l).length ≤ l.length := by
  unfold cutR
  split
  · rw [List.length_drop]
    have := (List.dropWhile_sublist (l := l) (· != c)).length_le
    omega
  · simp
theorem take_to {c : UInt8} : ∀ {l r : List UInt8}, c ∉ l → (l ++ c :: r).takeWhile (· != c) = l
  | [], r, _ => by simp
  | b :: l, r, h => by
    have hb : (b != c) = true := by
      simp only [List.mem_cons, not_or] at h
      simp only [bne_iff_ne]
      exact fun e => h.1 e.symm
    rw [List.cons_append, List.takeWhile_cons, if_pos hb, take_to fun e => h (List.mem_cons_of_mem _ e)]
theorem drop_to {c : UInt8} : ∀ {l r : List UInt8}, c ∉ l → (l ++ c :: r).dropWhile (· != c) = c :: r
  | [], r, _ => by simp
  | b :: l, r, h => by
    have hb : (b != c) = true := by
      simp only [List.mem_cons, not_or] at h
      simp only [bne_iff_ne]
      exact fun e => h.1 e.symm
    rw [List.cons_append, List.dropWhile_cons, if_pos hb, drop_to fun e => h (List.mem_cons_of_mem _ e)]
theorem cutL_at {c : UInt8} {l r : List UInt8} (h : c ∉ l) : cutL c (l ++ c :: r) = l := by
  unfold cutL
  rw [if_pos (by simp), take_to h]
theorem cutR_at {c : UInt8} {l r : List UInt8} (h : c ∉ l) : cutR c (l ++ c :: r) = r := by
  unfold cutR
  rw [if_pos (by simp), drop_to h]
  rfl
theorem cutIs_at {c : UInt8} {l r : List UInt8} : cutIs c (l ++ c :: r) = true := by
  unfold cutIs
  simp
theorem name_no_colon {l : List UInt8} (h : nameB l = true) : (58 : UInt8) ∉ l := by
  unfold nameB allB at h
  simp only [Bool.and_eq_true, List.all_eq_true] at h
  exact fun e => nameC_not (h.2.2 _ e) rfl
theorem name_length {l : List UInt8} (h : nameB l = true) : l.length ≤ 40 := by
  unfold nameB at h
  simp only [Bool.and_eq_true, decide_eq_true_eq] at h
  exact h.2.1
theorem val_length {l : List UInt8} (h : valB l = true) : l.length ≤ 200 := by
  unfold valB at h
  simp only [Bool.and_eq_true, decide_eq_true_eq] at h
  exact h.1
theorem val_trim {l : List UInt8} (h : valB l = true) : trim l = l := by
  unfold valB at h
  simp only [Bool.and_eq_true, beq_iff_eq] at h
  exact h.2.1
end Go.Proofs.YthemlbefkdmegaaDoor.Sp
namespace Go.Proofs.YthemlbefkdmegaaDoor.P
open Go.RowKit Go.Proofs.YthemlbefkdmegaaDoorW.PrintWords Go.Proofs.YthemlbefkdmegaaDoorW.PrintLast Go.Proofs.YthemlbefkdmegaaDoorW.PrintMore

theorem size_data (s : ByteArray) : s.data.toList.length = s.size := by rw [Array.length_toList]; rfl
theorem name_f {a : ByteArray} (h : a.size ≤ 9223372036854775806) : field_Name.f a = some (Sp.nameB a.data.toList) := by unfold field_Name.f; rw [if_pos h]
theorem value_f {a : ByteArray} (h : a.size ≤ 9223372036854775806) : field_Value.f a = some (Sp.valB a.data.toList) := by unfold field_Value.f; rw [if_pos h]
theorem trim_f {a : ByteArray} (h : a.size ≤ 9223372036854775806) : field_Trim.f a = some ⟨(Sp.trim a.data.toList).toArray⟩ := by unfold field_Trim.f; rw [if_pos h]
theorem lower_f {a : ByteArray} (h : a.size ≤ 9223372036854775806) : field_Lower.f a = some ⟨(Sp.lower a.data.toList).toArray⟩ := by unfold field_Lower.f; rw [if_pos h]
theorem mk_size (l : List UInt8) : (⟨l.toArray⟩ : ByteArray).size = l.length := by show l.toArray.size = _; rw [List.size_toArray]
theorem toList_data (a : ByteArray) : a.toList = a.data.toList := ByteArray.toList_eq a
end Go.Proofs.YthemlbefkdmegaaDoor.P
namespace Go.Proofs.YthemlbefkdmegaaDoor.P
open Go.RowKit Go.Proofs.YthemlbefkdmegaaDoorW.PrintWords Go.Proofs.YthemlbefkdmegaaDoorW.PrintLast Go.Proofs.YthemlbefkdmegaaDoorW.PrintMore

theorem wrap_next (n : Nat) (h : n < 8796093022208) : wrap64 ((n : Int) + 1) = ((n + 1 : Nat) : Int) := by unfold wrap64; omega
theorem bt_low {x : ByteArray} {i : Nat} (h : i < x.size) : bt x (i : Int) = ((x.data.toList[i]'(by rw [size_data]; exact h)).toNat : Int) := by
  unfold bt
  rw [dif_pos (by simpa using h)]
  rfl
theorem one_byte (c : UInt8) : (strOfNums [(c.toNat : Int)]) = ⟨#[c]⟩ := by
  have := Lib.Lz.strOfNums_map [c]
  simpa using this
theorem low_num (c : UInt8) (h : 65 ≤ (c.toNat : Int)) (h' : (c.toNat : Int) ≤ 90) : ((c.toNat : Int) + 32) % 256 = ((Sp.lowC c).toNat : Int) := by
  unfold Sp.lowC
  have h1 : (65 : UInt8) ≤ c := by rw [UInt8.le_iff_toNat_le]; simp; omega
  have h2 : c ≤ (90 : UInt8) := by rw [UInt8.le_iff_toNat_le]; simp; omega
  rw [if_pos (by simp [h1, h2]), UInt8.toNat_add]
  simp
theorem low_same (c : UInt8) (h : ¬ (65 ≤ (c.toNat : Int) ∧ (c.toNat : Int) ≤ 90)) : Sp.lowC c = c := by
  unfold Sp.lowC
  rw [if_neg]
  intro e
  simp only [Bool.and_eq_true, decide_eq_true_eq] at e
  obtain ⟨h1, h2⟩ := e
  rw [UInt8.le_iff_toNat_le] at h1 h2
  simp at h1 h2
  omega
end Go.Proofs.YthemlbefkdmegaaDoor.P
namespace Go.Proofs.YthemlbefkdmegaaDoor.P
open Go.RowKit Go.Proofs.YthemlbefkdmegaaDoorW.PrintWords Go.Proofs.YthemlbefkdmegaaDoorW.PrintLast Go.Proofs.YthemlbefkdmegaaDoorW.PrintMore
theorem byte_all {p : Nat → Bool} (h : ((List.range 256).all p) = true) (c : UInt8) : p c.toNat = true := by
  rw [List.all_eq_true] at h
  exact h c.toNat (List.mem_range.2 c.toNat_lt)
theorem byte_back (c : UInt8) : UInt8.ofNat c.toNat = c := by simp
theorem tchar_ev (c : UInt8) (k : Nat) (hk : 40 ≤ k) : lockageref05_tchar.f k (c.toNat : Int) = some (Sp.nameC c) := by
  have h : ((List.range 256).all fun n => lockageref05_tchar.f 40 (n : Int) == some (Sp.nameC (UInt8.ofNat n))) = true := by kernel_rfl
  have := byte_all h c
  rw [byte_back] at this
  exact at_rounds (lockageref05_tchar.mono _) hk (by simpa using this)
theorem blank_ev (c : UInt8) : lockageref05_blank.f (c.toNat : Int) = some (([32, 9] : List UInt8).contains c) := by
  have h : ((List.range 256).all fun n => lockageref05_blank.f (n : Int) == some (([32, 9] : List UInt8).contains (UInt8.ofNat n))) = true := by kernel_rfl
  have := byte_all h c
  rw [byte_back] at this
  simpa using this
theorem wrap_nx (n : Nat) (h : n ≤ 9223372036854775806) : wrap64 ((n : Int) + 1) = ((n + 1 : Nat) : Int) := by unfold wrap64; omega
theorem RefName_at (x : ByteArray) (hx : x.size ≤ 9223372036854775806) (d : Nat) :
    ∀ (i k : Nat), x.size - i = d → i ≤ x.size → d + 50 ≤ k → lockageref05_Name.l0 k x i = some (Sp.allB Sp.nameC (x.data.toList.drop i) && (!x.data.toList.isEmpty && decide (x.data.toList.length ≤ 40))) := by
  have hsz := size_data x
  induction d with
  | zero =>
    intro i k hd hi hk
    obtain ⟨k, rfl⟩ : ∃ j, k = j + 1 := ⟨k - 1, by omega⟩
    unfold lockageref05_Name.l0
    rw [if_neg (by omega), List.drop_of_length_le (by omega), toList_data]
    by_cases h : x.data.toList = []
    · rw [if_pos h, h]
      rfl
    · rw [if_neg h]
      have e1 : x.data.toList.isEmpty = false := by simpa using h
      have e2 : decide ((x.size : Int) ≤ 40) = decide (x.data.toList.length ≤ 40) := by rw [hsz]; exact decide_eq_decide.2 (by omega)
      rw [e1, e2]
      rfl
  | succ d ih =>
    intro i k hd hi hk
    obtain ⟨k, rfl⟩ : ∃ j, k = j + 1 := ⟨k - 1, by omega⟩
    have hlt : i < x.size := by omega
    have hl : i < x.data.toList.length := by omega
    have ed : x.data.toList.drop i = x.data.toList[i] :: x.data.toList.drop (i + 1) := List.drop_eq_getElem_cons hl
    unfold lockageref05_Name.l0
    rw [if_pos (by omega), if_pos (by omega), bt_low hlt, tchar_ev _ k (by omega), ed]
    simp only [Option.bind_some]
    have ea : Sp.allB Sp.nameC (x.data.toList[i] :: x.data.toList.drop (i + 1)) = (Sp.nameC x.data.toList[i] && Sp.allB Sp.nameC (x.data.toList.drop (i + 1))) := rfl
    rw [ea]
    cases hc : Sp.nameC x.data.toList[i] with
    | true =>
      rw [if_pos rfl, wrap_nx i (by omega), ih (i + 1) k (by omega) (by omega) (by omega), Bool.true_and]
    | false =>
      rw [if_neg (by decide), Bool.false_and, Bool.false_and]
theorem RefName_ev (x : ByteArray) (hx : x.size ≤ 9223372036854775806) (k : Nat) (hk : x.size + 50 ≤ k) : lockageref05_Name.f k x = some (Sp.nameB x.data.toList) := by
  unfold lockageref05_Name.f
  have := RefName_at x hx x.size 0 k (Nat.sub_zero _) (Nat.zero_le _) hk
  rw [List.drop_zero] at this
  rw [show lockageref05_Name.l0 k x 0 = _ from this]
  unfold Sp.nameB
  rw [Bool.and_comm, Bool.and_assoc]
theorem right_snoc (l : List UInt8) (b : UInt8) : Lib.trimRightS (l ++ [b]) [32, 9] = if ([32, 9] : List UInt8).contains b = true then Lib.trimRightS l [32, 9] else l ++ [b] := by
  unfold Lib.trimRightS
  rw [List.reverse_append]
  show (List.dropWhile (([32, 9] : List UInt8).contains ·) (b :: l.reverse)).reverse = _
  rw [List.dropWhile_cons]
  split
  · rfl
  · rw [List.reverse_cons, List.reverse_reverse]
theorem right_cons (l : List UInt8) (b : UInt8) (hb : ([32, 9] : List UInt8).contains b = false) : Lib.trimRightS (b :: l) [32, 9] = b :: Lib.trimRightS l [32, 9] := by
  unfold Lib.trimRightS
  rw [List.reverse_cons]
  have : ∀ q : List UInt8, (q ++ [b]).dropWhile (([32, 9] : List UInt8).contains ·) = q.dropWhile (([32, 9] : List UInt8).contains ·) ++ [b] := by
    intro q
    induction q with
    | nil => rw [List.nil_append, List.dropWhile_cons, if_neg (by rw [hb]; exact Bool.false_ne_true)]; rfl
    | cons c q ih =>
      rw [List.cons_append, List.dropWhile_cons, List.dropWhile_cons]
      split
      · exact ih
      · rfl
  rw [this, List.reverse_append]
  rfl
theorem trim_swap : ∀ l : List UInt8, Lib.trimRightS (Lib.trimLeftS l [32, 9]) [32, 9] = Sp.trim l
  | [] => rfl
  | b :: l => by
    cases hb : ([32, 9] : List UInt8).contains b with
    | true =>
      rw [Sp.trim_blank hb, ← trim_swap l]
      unfold Lib.trimLeftS
      rw [List.dropWhile_cons, if_pos hb]
    | false =>
      unfold Sp.trim Lib.trimS
      rw [right_cons l b hb]
      unfold Lib.trimLeftS
      rw [List.dropWhile_cons, if_neg (by rw [hb]; exact Bool.false_ne_true), List.dropWhile_cons, if_neg (by rw [hb]; exact Bool.false_ne_true), right_cons l b hb]
theorem Trim_l1 (n : Nat) : ∀ (x : ByteArray) (k : Nat), x.size = n → x.size ≤ 9223372036854775806 → n + 1 ≤ k → lockageref05_Trim.l1 k x = some ⟨(Lib.trimRightS x.data.toList [32, 9]).toArray⟩ := by
  induction n with
  | zero =>
    intro x k hn hx hk
    obtain ⟨k, rfl⟩ : ∃ j, k = j + 1 := ⟨k - 1, by omega⟩
    have hsz := size_data x
    have e : x.data.toList = [] := List.eq_nil_of_length_eq_zero (by omega)
    unfold lockageref05_Trim.l1
    rw [if_neg (by omega), e]
    exact congrArg some (H.ba_ext (by rw [e]; rfl))
  | succ n ih =>
    intro x k hn hx hk
    obtain ⟨k, rfl⟩ : ∃ j, k = j + 1 := ⟨k - 1, by omega⟩
    have hsz := size_data x
    have hlt : n < x.size := by omega
    have ew : wrap64 ((x.size : Int) - 1) = (n : Int) := by rw [hn]; unfold wrap64; omega
    have hsp : x.data.toList = x.data.toList.take n ++ [x.data.toList[n]'(by omega)] := by
      have := List.take_append_getElem (l := x.data.toList) (i := n) (by omega)
      rw [this, List.take_of_length_le (by omega)]
    have hex : (x.extract 0 n).data.toList = x.data.toList.take n := by
      rw [Lib.extract_data]
      simp
    have hes : (x.extract 0 n).size = n := by rw [← size_data, hex, List.length_take]; omega
    unfold lockageref05_Trim.l1
    rw [ew, if_pos (by omega), if_pos (by omega), if_pos (by omega), bt_low hlt, blank_ev]
    simp only [Option.bind_some]
    rw [if_pos (show (n : Int) ≤ (x.size : Int) by omega), Int.toNat_natCast]
    generalize hb : x.data.toList[n]'(by omega) = b at hsp ⊢
    have er := right_snoc (x.data.toList.take n) b
    rw [← hsp] at er
    rw [er]
    split
    · rw [ih _ k hes (by omega) (by omega), hex]
    · exact congrArg some (H.ba_ext (by simp))
theorem Trim_l0 (n : Nat) : ∀ (x : ByteArray) (k : Nat), x.size = n → x.size ≤ 9223372036854775806 → 2 * n + 5 ≤ k → lockageref05_Trim.l0 k x = some ⟨(Sp.trim x.data.toList).toArray⟩ := by
  induction n with
  | zero =>
    intro x k hn hx hk
    obtain ⟨k, rfl⟩ : ∃ j, k = j + 2 := ⟨k - 2, by omega⟩
    have hsz := size_data x
    have e : x.data.toList = [] := List.eq_nil_of_length_eq_zero (by omega)
    unfold lockageref05_Trim.l0
    rw [if_neg (by omega)]
    unfold lockageref05_Trim.j1
    dsimp only
    rw [Trim_l1 0 x k hn hx (by omega), e]
    rfl
  | succ n ih =>
    intro x k hn hx hk
    obtain ⟨k, rfl⟩ : ∃ j, k = j + 2 := ⟨k - 2, by omega⟩
    have hsz := size_data x
    have hlt : 0 < x.size := by omega
    have hl0 : 0 < x.data.toList.length := by omega
    have hsp : x.data.toList = x.data.toList[0] :: x.data.toList.drop 1 := by
      have := List.drop_eq_getElem_cons hl0
      rw [List.drop_zero] at this
      exact this
    have hex : (x.extract 1 x.size).data.toList = x.data.toList.drop 1 := Lib.extract_to_end x 1
    have hes : (x.extract 1 x.size).size = n := by rw [← size_data, hex, List.length_drop]; omega
    have hbt := bt_low (x := x) (i := 0) hlt
    have hbl := blank_ev (x.data.toList[0])
    unfold lockageref05_Trim.l0
    rw [if_pos (by omega), if_pos (by omega)]
    rw [show bt x 0 = _ from hbt, hbl]
    simp only [Option.bind_some]
    rw [if_pos (show (1 : Int) ≤ (x.size : Int) by omega)]
    generalize x.data.toList[0] = b at hsp ⊢
    cases hb : ([32, 9] : List UInt8).contains b with
    | true =>
      rw [if_pos rfl, ih _ (k + 1) hes (by omega) (by omega), hex, hsp, Sp.trim_blank hb]
      rfl
    | false =>
      rw [if_neg (by decide)]
      unfold lockageref05_Trim.j1
      dsimp only
      rw [Trim_l1 (n + 1) x k hn hx (by omega), ← trim_swap x.data.toList]
      have : Lib.trimLeftS x.data.toList [32, 9] = x.data.toList := by
        rw [hsp]
        unfold Lib.trimLeftS
        rw [List.dropWhile_cons, if_neg (by rw [hb]; exact Bool.false_ne_true)]
      rw [this]
theorem RefTrim_ev (x : ByteArray) (hx : x.size ≤ 9223372036854775806) (k : Nat) (hk : 2 * x.size + 5 ≤ k) : lockageref05_Trim.f k x = some ⟨(Sp.trim x.data.toList).toArray⟩ := Trim_l0 x.size x k rfl hx hk
end Go.Proofs.YthemlbefkdmegaaDoor.P
namespace Go.Proofs.YthemlbefkdmegaaDoor.P
open Go.RowKit Go.Proofs.YthemlbefkdmegaaDoorW.PrintWords Go.Proofs.YthemlbefkdmegaaDoorW.PrintLast Go.Proofs.YthemlbefkdmegaaDoorW.PrintMore
def badV (c : Int) : Bool := if c = 9 then false else if c < 32 then true else decide (c > 126)
theorem badV_ev (c : UInt8) : badV (c.toNat : Int) = !Sp.valC c := by
  have h : ((List.range 256).all fun n => badV (n : Int) == !Sp.valC (UInt8.ofNat n)) = true := by kernel_rfl
  have := byte_all h c
  rw [byte_back] at this
  simpa using this
theorem RefValue_at (x : ByteArray) (hx : x.size ≤ 9223372036854775806) (d : Nat) :
    ∀ (i k : Nat), x.size - i = d → i ≤ x.size → 2 * d + 2 * x.size + 10 ≤ k → lockageref05_Value.l0 k x i = some (Sp.allB Sp.valC (x.data.toList.drop i) && (decide (x.data.toList.length ≤ 200) && (Sp.trim x.data.toList == x.data.toList))) := by
  have hsz := size_data x
  induction d with
  | zero =>
    intro i k hd hi hk
    obtain ⟨k, rfl⟩ : ∃ j, k = j + 1 := ⟨k - 1, by omega⟩
    unfold lockageref05_Value.l0
    rw [if_neg (by omega), List.drop_of_length_le (by omega)]
    by_cases h : (x.size : Int) ≤ 200
    · rw [if_pos h, RefTrim_ev x hx k (by omega), decide_eq_true (by omega : x.data.toList.length ≤ 200)]
      simp only [Option.bind_some]
      rw [toList_data, toList_data]
      rfl
    · rw [if_neg h, decide_eq_false (by omega : ¬ x.data.toList.length ≤ 200)]
      rfl
  | succ d ih =>
    intro i k hd hi hk
    obtain ⟨k, rfl⟩ : ∃ j, k = j + 2 := ⟨k - 2, by omega⟩
    have hlt : i < x.size := by omega
    have hl : i < x.data.toList.length := by omega
    have ed : x.data.toList.drop i = x.data.toList[i] :: x.data.toList.drop (i + 1) := List.drop_eq_getElem_cons hl
    have ea : Sp.allB Sp.valC (x.data.toList[i] :: x.data.toList.drop (i + 1)) = (Sp.valC x.data.toList[i] && Sp.allB Sp.valC (x.data.toList.drop (i + 1))) := rfl
    have hj : lockageref05_Value.l0 (k + 2) x i = lockageref05_Value.j1 (k + 1) x i (badV (x.data.toList[i].toNat : Int)) := by
      unfold lockageref05_Value.l0
      rw [if_pos (by omega), if_pos (by omega), bt_low hlt]
      unfold badV
      split
      · rfl
      · split <;> rfl
    rw [hj, badV_ev, ed, ea]
    unfold lockageref05_Value.j1
    cases hc : Sp.valC x.data.toList[i] with
    | true =>
      rw [if_neg (by decide), wrap_nx i (by omega), ih (i + 1) k (by omega) (by omega) (by omega), Bool.true_and]
    | false =>
      rw [if_pos (by decide), Bool.false_and, Bool.false_and]
theorem RefValue_ev (x : ByteArray) (hx : x.size ≤ 9223372036854775806) (k : Nat) (hk : 4 * x.size + 10 ≤ k) : lockageref05_Value.f k x = some (Sp.valB x.data.toList) := by
  unfold lockageref05_Value.f
  have := RefValue_at x hx x.size 0 k (Nat.sub_zero _) (Nat.zero_le _) (by omega)
  rw [List.drop_zero] at this
  rw [show lockageref05_Value.l0 k x 0 = _ from this]
  unfold Sp.valB
  rw [Bool.and_comm, Bool.and_assoc]
end Go.Proofs.YthemlbefkdmegaaDoor.P
namespace Go.Proofs.YthemlbefkdmegaaDoor.P
open Go.RowKit Go.Proofs.YthemlbefkdmegaaDoorW.PrintWords Go.Proofs.YthemlbefkdmegaaDoorW.PrintLast Go.Proofs.YthemlbefkdmegaaDoorW.PrintMore
def digX (c : UInt8) : Int := if 48 ≤ c.toNat && c.toNat ≤ 57 then (c.toNat : Int) - 48 else if 97 ≤ c.toNat && c.toNat ≤ 102 then (c.toNat : Int) - 87 else if 65 ≤ c.toNat && c.toNat ≤ 70 then (c.toNat : Int) - 55 else -1
theorem digit_evx (c : UInt8) (k : Nat) (hk : 20 ≤ k) : num_digit.f k (c.toNat : Int) 16 = some (digX c) := by
  have h : ((List.range 256).all fun n => num_digit.f 20 (n : Int) 16 == some (digX (UInt8.ofNat n))) = true := by kernel_rfl
  have := byte_all h c
  rw [byte_back] at this
  exact at_rounds (num_digit.mono _ _) hk (by simpa using this)
theorem value_evx (c : UInt8) (k : Nat) (hk : 20 ≤ k) : lockageref03_value.f k (c.toNat : Int) 16 = some (digX c) := by
  have h : ((List.range 256).all fun n => lockageref03_value.f 20 (n : Int) 16 == some (digX (UInt8.ofNat n))) = true := by kernel_rfl
  have := byte_all h c
  rw [byte_back] at this
  exact at_rounds (lockageref03_value.mono _ _) hk (by simpa using this)
def isHex (c : UInt8) : Bool := (48 ≤ c.toNat && c.toNat ≤ 57) || (97 ≤ c.toNat && c.toNat ≤ 102) || (65 ≤ c.toNat && c.toNat ≤ 70)
theorem digX_yes {c : UInt8} (h : isHex c = true) : 0 ≤ digX c ∧ digX c ≤ 15 := by
  have a : ((List.range 256).all fun n => !isHex (UInt8.ofNat n) || (decide (0 ≤ digX (UInt8.ofNat n)) && decide (digX (UInt8.ofNat n) ≤ 15))) = true := by kernel_rfl
  have := byte_all a c
  rw [byte_back, h] at this
  simpa using this
theorem digX_no {c : UInt8} (h : isHex c = false) : digX c = -1 := by
  have a : ((List.range 256).all fun n => isHex (UInt8.ofNat n) || decide (digX (UInt8.ofNat n) = -1)) = true := by kernel_rfl
  have := byte_all a c
  rw [byte_back, h] at this
  simpa using this
def numX : List UInt8 → Int → Option Int
  | [], n => some n
  | c :: l, n => if n * 16 + digX c ≤ 9007199254740992 then numX l (n * 16 + digX c) else none
def outX : Option Int → Int × Int
  | some n => (n, 0)
  | none => (0, 3)
def parseX (l : List UInt8) : Int × Int := if l = [] then (0, 1) else if l.all isHex = true then outX (numX l 0) else (0, 1)
theorem all_dropx (l : List UInt8) (i : Nat) (h : i < l.length) : (l.drop i).all isHex = (isHex l[i] && (l.drop (i + 1)).all isHex) := by
  rw [List.drop_eq_getElem_cons h, List.all_cons]
theorem numX_drop (l : List UInt8) (i : Nat) (h : i < l.length) (n : Int) : numX (l.drop i) n = if n * 16 + digX l[i] ≤ 9007199254740992 then numX (l.drop (i + 1)) (n * 16 + digX l[i]) else none := by
  rw [List.drop_eq_getElem_cons h]
  rfl
theorem Fits_fx (n : Int) : num_Fits.f n = some (decide (0 ≤ n) && decide (n ≤ 9007199254740992)) := by
  unfold num_Fits.f
  by_cases h : n ≥ 0
  · rw [if_pos h, decide_eq_true (show 0 ≤ n from h), Bool.true_and]
  · rw [if_neg h, decide_eq_false (show ¬ 0 ≤ n from h), Bool.false_and]
theorem RFits_fx (n : Int) : lockageref03_Fits.f n = some (decide (0 ≤ n) && decide (n ≤ 9007199254740992)) := by
  unfold lockageref03_Fits.f
  by_cases h : n ≥ 0
  · rw [if_pos h, decide_eq_true (show 0 ≤ n from h), Bool.true_and]
  · rw [if_neg h, decide_eq_false (show ¬ 0 ≤ n from h), Bool.false_and]
theorem wrap_ofx {n : Int} (h : -9223372036854775808 ≤ n ∧ n ≤ 9223372036854775807) : wrap64 n = n := by unfold wrap64; omega
theorem num_badx (x : ByteArray) (hx : x.size ≤ 9223372036854775806) (d : Nat) : ∀ (i k : Nat), x.size - i = d → i ≤ x.size → 2 * d + 30 ≤ k →
    num_Parse.l0 k x 16 0 3 (x.size : Int) i = some (if (x.data.toList.drop i).all isHex = true then (0, 3) else (0, 1)) := by
  have hsz := size_data x
  induction d with
  | zero =>
    intro i k hd hi hk
    obtain ⟨k, rfl⟩ : ∃ j, k = j + 1 := ⟨k - 1, by omega⟩
    unfold num_Parse.l0
    rw [if_neg (by omega), List.drop_of_length_le (by omega)]
    rfl
  | succ d ih =>
    intro i k hd hi hk
    obtain ⟨k, rfl⟩ : ∃ j, k = j + 2 := ⟨k - 2, by omega⟩
    have hlt : i < x.size := by omega
    have hl : i < x.data.toList.length := by omega
    unfold num_Parse.l0
    rw [if_pos (by omega), if_pos (by omega), if_pos (by omega), bt_low hlt, digit_evx _ (k + 1) (by omega), all_dropx _ _ hl]
    simp only [Option.bind_some]
    cases hc : isHex x.data.toList[i] with
    | false =>
      rw [if_pos (digX_no hc)]
      rfl
    | true =>
      have hv := digX_yes hc
      rw [if_neg (by omega), if_neg (by decide)]
      unfold num_Parse.j2
      rw [Fits_fx]
      simp only [Option.bind_some]
      rw [if_pos (by decide), wrap_nx i (by omega), ih (i + 1) k (by omega) (by omega) (by omega), Bool.true_and]
theorem num_goodx (x : ByteArray) (hx : x.size ≤ 9223372036854775806) (d : Nat) : ∀ (i k : Nat) (n : Int), x.size - i = d → i ≤ x.size → 2 * d + 30 ≤ k → 0 ≤ n → n ≤ 9007199254740992 →
    num_Parse.l0 k x 16 n 0 (x.size : Int) i = some (if (x.data.toList.drop i).all isHex = true then outX (numX (x.data.toList.drop i) n) else (0, 1)) := by
  have hsz := size_data x
  induction d with
  | zero =>
    intro i k n hd hi hk h0 h1
    obtain ⟨k, rfl⟩ : ∃ j, k = j + 1 := ⟨k - 1, by omega⟩
    unfold num_Parse.l0
    rw [if_neg (by omega), List.drop_of_length_le (by omega)]
    rfl
  | succ d ih =>
    intro i k n hd hi hk h0 h1
    obtain ⟨k, rfl⟩ : ∃ j, k = j + 2 := ⟨k - 2, by omega⟩
    have hlt : i < x.size := by omega
    have hl : i < x.data.toList.length := by omega
    unfold num_Parse.l0
    rw [if_pos (by omega), if_pos (by omega), if_pos (by omega), bt_low hlt, digit_evx _ (k + 1) (by omega), all_dropx _ _ hl, numX_drop _ _ hl]
    simp only [Option.bind_some]
    cases hc : isHex x.data.toList[i] with
    | false =>
      rw [if_pos (digX_no hc)]
      rfl
    | true =>
      have hv := digX_yes hc
      generalize digX x.data.toList[i] = v at hv ⊢
      rw [if_neg (by omega), if_pos trivial, wrap_ofx (n := n * 16) (by omega), wrap_ofx (n := n * 16 + v) (by omega)]
      unfold num_Parse.j2
      rw [Fits_fx, decide_eq_true (show 0 ≤ n * 16 + v by omega)]
      simp only [Option.bind_some, Bool.true_and]
      by_cases hm : n * 16 + v ≤ 9007199254740992
      · rw [if_pos (decide_eq_true hm), if_pos hm, wrap_nx i (by omega), ih (i + 1) k _ (by omega) (by omega) (by omega) (by omega) hm]
      · rw [if_neg (by simpa using hm), if_neg hm, wrap_nx i (by omega), num_badx x hx d (i + 1) k (by omega) (by omega) (by omega)]
        rfl
theorem Parse_evx (x : ByteArray) (hx : x.size ≤ 9223372036854775806) (k : Nat) (hk : 2 * x.size + 40 ≤ k) : num_Parse.f k x 16 = some (parseX x.data.toList) := by
  obtain ⟨k, rfl⟩ : ∃ j, k = j + 1 := ⟨k - 1, by omega⟩
  unfold num_Parse.f parseX
  rw [toList_data]
  by_cases h : x.data.toList = []
  · rw [if_pos h, if_pos h]
    unfold num_Parse.j0
    rfl
  · rw [if_neg h, if_neg h, if_neg (by decide)]
    unfold num_Parse.j0
    dsimp only
    rw [if_neg (by decide)]
    have := num_goodx x hx x.size 0 k 0 (Nat.sub_zero _) (Nat.zero_le _) (by omega) (by decide) (by decide)
    rw [List.drop_zero] at this
    exact this
theorem ref_l1x (x : ByteArray) (hx : x.size ≤ 9223372036854775806) (hall : x.data.toList.all isHex = true) (d : Nat) : ∀ (i k : Nat) (n : Int), x.size - i = d → i ≤ x.size → 2 * d + 60 ≤ k → 0 ≤ n → n ≤ 9007199254740992 →
    lockageref03_Parse.l1 k x 16 n i = some (outX (numX (x.data.toList.drop i) n)) := by
  have hsz := size_data x
  induction d with
  | zero =>
    intro i k n hd hi hk h0 h1
    obtain ⟨k, rfl⟩ : ∃ j, k = j + 1 := ⟨k - 1, by omega⟩
    unfold lockageref03_Parse.l1
    rw [if_neg (by omega), List.drop_of_length_le (by omega)]
    rfl
  | succ d ih =>
    intro i k n hd hi hk h0 h1
    obtain ⟨k, rfl⟩ : ∃ j, k = j + 2 := ⟨k - 2, by omega⟩
    have hlt : i < x.size := by omega
    have hl : i < x.data.toList.length := by omega
    have hv := digX_yes (List.all_eq_true.1 hall _ (List.getElem_mem hl))
    have eq16 : wrap64 (Int.tdiv 9007199254740992 16) = 562949953421312 := by unfold wrap64; decide
    have hM : lockageref03_Mul.f (k + 1) n 16 = some (if n > 562949953421312 then (0, 3) else (n * 16, 0)) := by
      unfold lockageref03_Mul.f
      rw [RFits_fx, RFits_fx, decide_eq_true h0, decide_eq_true h1]
      simp only [Option.bind_some, Bool.and_self, if_true]
      unfold lockageref03_Mul.j0
      dsimp only
      rw [if_neg (by decide), if_pos (by decide), if_neg (by decide), eq16]
      by_cases h : n > 562949953421312
      · rw [if_pos h, if_pos h]
      · rw [if_neg h, if_neg h, wrap_ofx (by omega)]
    have hA : ∀ a v : Int, 0 ≤ a → a ≤ 9007199254740992 → 0 ≤ v → v ≤ 15 → lockageref03_Add.f (k + 1) a v = some (if a + v ≤ 9007199254740992 then (a + v, 0) else (0, 3)) := by
      intro a v ha0 ha1 hv0 hv1
      unfold lockageref03_Add.f
      rw [RFits_fx, RFits_fx, decide_eq_true ha0, decide_eq_true ha1, decide_eq_true hv0, decide_eq_true (show v ≤ 9007199254740992 by omega)]
      simp only [Option.bind_some, Bool.and_self, if_true]
      unfold lockageref03_Add.j0
      dsimp only
      rw [if_neg (by decide), wrap_ofx (n := 9007199254740992 - v) (by omega)]
      by_cases h : a + v ≤ 9007199254740992
      · rw [if_neg (by omega), if_pos h, wrap_ofx (by omega)]
      · rw [if_pos (by omega), if_neg h]
    unfold lockageref03_Parse.l1
    rw [if_pos (by omega), hM, numX_drop _ _ hl]
    simp only [Option.bind_some]
    rw [if_pos (by omega), bt_low hlt, value_evx _ (k + 1) (by omega)]
    simp only [Option.bind_some]
    generalize digX x.data.toList[i] = v at hv ⊢
    by_cases h : n > 562949953421312
    · rw [if_pos h, hA 0 v (by decide) (by decide) hv.1 hv.2]
      simp only [Option.bind_some]
      rw [if_neg (by decide), if_neg (by omega)]
      rfl
    · rw [if_neg h, hA (n * 16) v (by omega) (by omega) hv.1 hv.2]
      simp only [Option.bind_some]
      rw [if_pos trivial]
      by_cases hm : n * 16 + v ≤ 9007199254740992
      · rw [if_pos hm, if_pos hm]
        simp only [if_true]
        rw [wrap_nx i (by omega)]
        exact ih (i + 1) (k + 1) _ (by omega) (by omega) (by omega) (by omega) hm
      · rw [if_neg hm, if_neg hm, if_neg (by decide)]
        rfl
theorem ref_l0x (x : ByteArray) (hx : x.size ≤ 9223372036854775806) (d : Nat) : ∀ (i k : Nat), x.size - i = d → i ≤ x.size → (x.data.toList.take i).all isHex = true → d + 2 * x.size + 80 ≤ k →
    lockageref03_Parse.l0 k x 16 i = some (if x.data.toList.all isHex = true then outX (numX x.data.toList 0) else (0, 1)) := by
  have hsz := size_data x
  induction d with
  | zero =>
    intro i k hd hi ht hk
    obtain ⟨k, rfl⟩ : ∃ j, k = j + 1 := ⟨k - 1, by omega⟩
    rw [List.take_of_length_le (by omega)] at ht
    unfold lockageref03_Parse.l0
    rw [if_neg (by omega), if_pos ht]
    have := ref_l1x x hx ht x.size 0 k 0 (Nat.sub_zero _) (Nat.zero_le _) (by omega) (by decide) (by decide)
    rw [List.drop_zero] at this
    exact this
  | succ d ih =>
    intro i k hd hi ht hk
    obtain ⟨k, rfl⟩ : ∃ j, k = j + 1 := ⟨k - 1, by omega⟩
    have hlt : i < x.size := by omega
    have hl : i < x.data.toList.length := by omega
    unfold lockageref03_Parse.l0
    rw [if_pos (by omega), if_pos (by omega), bt_low hlt, value_evx _ k (by omega)]
    simp only [Option.bind_some]
    cases hc : isHex x.data.toList[i] with
    | false =>
      have hall : x.data.toList.all isHex = false := by
        rw [List.all_eq_false]
        exact ⟨_, List.getElem_mem hl, by rw [hc]; exact Bool.false_ne_true⟩
      rw [if_pos (by rw [digX_no hc]; decide), if_neg (by rw [hall]; exact Bool.false_ne_true)]
    | true =>
      have hv := digX_yes hc
      rw [if_neg (by omega), wrap_nx i (by omega)]
      refine ih (i + 1) k (by omega) (by omega) ?_ (by omega)
      rw [List.take_succ_eq_append_getElem hl, List.all_append, ht, List.all_cons, hc]
      rfl
theorem RefParse_evx (x : ByteArray) (hx : x.size ≤ 9223372036854775806) (k : Nat) (hk : 4 * x.size + 100 ≤ k) : lockageref03_Parse.f k x 16 = some (parseX x.data.toList) := by
  obtain ⟨k, rfl⟩ : ∃ j, k = j + 1 := ⟨k - 1, by omega⟩
  unfold lockageref03_Parse.f parseX
  rw [toList_data]
  by_cases h : x.data.toList = []
  · rw [if_pos h, if_pos h]
    unfold lockageref03_Parse.j0
    rfl
  · rw [if_neg h, if_neg h, if_neg (by decide)]
    unfold lockageref03_Parse.j0
    dsimp only
    rw [if_neg (by decide)]
    exact ref_l0x x hx x.size 0 k (Nat.sub_zero _) (Nat.zero_le _) rfl (by omega)
end Go.Proofs.YthemlbefkdmegaaDoor.P
namespace Go.Proofs.YthemlbefkdmegaaDoor.P
open Go.RowKit Go.Proofs.YthemlbefkdmegaaDoorW.PrintWords Go.Proofs.YthemlbefkdmegaaDoorW.PrintLast Go.Proofs.YthemlbefkdmegaaDoorW.PrintMore
def fieldP (l : List UInt8) : ByteArray × ByteArray × Int :=
  if (Sp.cutIs 58 l && (Sp.nameB (Sp.cutL 58 l) && Sp.valB (Sp.trim (Sp.cutR 58 l)))) = true then (⟨(Sp.cutL 58 l).toArray⟩, ⟨(Sp.trim (Sp.cutR 58 l)).toArray⟩, 0) else (⟨#[]⟩, ⟨#[]⟩, 21)
/-- How many bytes stand ahead of the first c. -/
def upto (c : UInt8) (l : List UInt8) : Nat := (l.takeWhile (· != c)).length
theorem upto_nil (c : UInt8) : upto c [] = 0 := rfl
theorem upto_hit (c : UInt8) (l : List UInt8) : upto c (c :: l) = 0 := by
  unfold upto
  rw [List.takeWhile_cons, if_neg (by simp)]
  rfl
theorem upto_miss {c b : UInt8} (h : b ≠ c) (l : List UInt8) : upto c (b :: l) = upto c l + 1 := by
  unfold upto
  rw [List.takeWhile_cons, if_pos (by simpa using h)]
  rfl
theorem upto_le (c : UInt8) : ∀ l : List UInt8, upto c l ≤ l.length
  | [] => Nat.le_refl _
  | b :: l => by
    by_cases h : b = c
    · rw [h, upto_hit]; omega
    · rw [upto_miss h, List.length_cons]; have := upto_le c l; omega
theorem upto_lt (c : UInt8) : ∀ l : List UInt8, upto c l < l.length ↔ c ∈ l
  | [] => by simp [upto_nil]
  | b :: l => by
    by_cases h : b = c
    · rw [h, upto_hit, List.length_cons]
      simp
    · rw [upto_miss h, List.length_cons, List.mem_cons]
      have := upto_lt c l
      constructor
      · intro e; exact .inr (this.1 (by omega))
      · rintro (e | e)
        · exact absurd e.symm h
        · have := this.2 e; omega
theorem take_upto (c : UInt8) : ∀ l : List UInt8, l.take (upto c l) = l.takeWhile (· != c)
  | [] => rfl
  | b :: l => by
    by_cases h : b = c
    · rw [h, upto_hit, List.takeWhile_cons, if_neg (by simp)]; rfl
    · rw [upto_miss h, List.takeWhile_cons, if_pos (by simpa using h), List.take_succ_cons, take_upto c l]
theorem drop_upto (c : UInt8) : ∀ l : List UInt8, l.drop (upto c l) = l.dropWhile (· != c)
  | [] => rfl
  | b :: l => by
    by_cases h : b = c
    · rw [h, upto_hit, List.dropWhile_cons, if_neg (by simp)]; rfl
    · rw [upto_miss h, List.dropWhile_cons, if_pos (by simpa using h), List.drop_succ_cons, drop_upto c l]
theorem cutL_upto (c : UInt8) (l : List UInt8) : l.take (upto c l) = Sp.cutL c l := by
  unfold Sp.cutL
  split
  · exact take_upto c l
  · rename_i h
    exact List.take_of_length_le (by have := mt (upto_lt c l).1 h; omega)
theorem cutR_upto (c : UInt8) (l : List UInt8) (h : c ∈ l) : l.drop (upto c l + 1) = Sp.cutR c l := by
  unfold Sp.cutR
  rw [if_pos h, ← drop_upto, List.drop_drop]
theorem ext_to (x : ByteArray) (n : Nat) : x.extract 0 n = ⟨(x.data.toList.take n).toArray⟩ := H.ba_ext (by rw [Lib.extract_data]; simp)
theorem ext_from (x : ByteArray) (n : Nat) : x.extract n x.size = ⟨(x.data.toList.drop n).toArray⟩ := H.ba_ext (by rw [Lib.extract_to_end])
theorem RefFP_l0 (x : ByteArray) (hx : x.size ≤ 9223372036854775806) (d : Nat) : ∀ (i k : Nat), x.size - i = d → i ≤ x.size → d + 5 ≤ k →
    ∃ k', k ≤ k' + d + 1 ∧ lockageref05_Parse.l0 k x i = lockageref05_Parse.j1 k' x ((i + upto 58 (x.data.toList.drop i) : Nat) : Int) := by
  have hsz := size_data x
  induction d with
  | zero =>
    intro i k hd hi hk
    obtain ⟨k, rfl⟩ : ∃ j, k = j + 1 := ⟨k - 1, by omega⟩
    refine ⟨k, by omega, ?_⟩
    rw [lockageref05_Parse.l0, if_neg (by omega), List.drop_of_length_le (by omega), upto_nil, Nat.add_zero]
  | succ d ih =>
    intro i k hd hi hk
    obtain ⟨k, rfl⟩ : ∃ j, k = j + 1 := ⟨k - 1, by omega⟩
    have hlt : i < x.size := by omega
    have hl : i < x.data.toList.length := by omega
    rw [lockageref05_Parse.l0, if_pos (by omega), if_pos (by omega), bt_low hlt, List.drop_eq_getElem_cons hl]
    by_cases hc : x.data.toList[i] = 58
    · rw [if_pos (by rw [hc]; rfl)]
      refine ⟨k, by omega, ?_⟩
      rw [hc, upto_hit, Nat.add_zero]
    · have hn : ¬ ((x.data.toList[i].toNat : Int) = 58) := fun e => hc (by
        have e1 : x.data.toList[i].toNat = 58 := by omega
        have := byte_back x.data.toList[i]
        rw [e1] at this
        exact this.symm)
      rw [if_neg hn, wrap_nx i (by omega)]
      obtain ⟨k', h1, h2⟩ := ih (i + 1) k (by omega) (by omega) (by omega)
      refine ⟨k', by omega, ?_⟩
      rw [h2, upto_miss hc]
      congr 2
      omega
theorem RefFParse_ev (x : ByteArray) (hx : x.size ≤ 9223372036854775000) (k : Nat) (hk : 5 * x.size + 100 ≤ k) : lockageref05_Parse.f k x = some (fieldP x.data.toList) := by
  have hsz := size_data x
  unfold lockageref05_Parse.f
  obtain ⟨k', h1, h2⟩ := RefFP_l0 x (by omega) x.size 0 k (Nat.sub_zero _) (Nat.zero_le _) (by omega)
  rw [show lockageref05_Parse.l0 k x 0 = _ from h2, List.drop_zero, Nat.zero_add]
  obtain ⟨n, hn⟩ : ∃ n, n = upto 58 x.data.toList := ⟨_, rfl⟩
  rw [← hn]
  have hle : n ≤ x.size := by rw [hn, ← hsz]; exact upto_le _ _
  have hmem : n < x.size ↔ (58 : UInt8) ∈ x.data.toList := by rw [hn, ← hsz]; exact upto_lt _ _
  obtain ⟨k', rfl⟩ : ∃ j, k' = j + 2 := ⟨k' - 2, by omega⟩
  rw [lockageref05_Parse.j1]
  unfold fieldP
  by_cases hm : n < x.size
  · have hc : Sp.cutIs 58 x.data.toList = true := by unfold Sp.cutIs; rw [List.contains_iff_mem]; exact hmem.1 hm
    have e1 : x.extract 0 n = ⟨(Sp.cutL 58 x.data.toList).toArray⟩ := by rw [ext_to, hn, cutL_upto]
    have e2 : x.extract (n + 1) x.size = ⟨(Sp.cutR 58 x.data.toList).toArray⟩ := by rw [ext_from, hn, cutR_upto _ _ (hmem.1 hm)]
    have s1 : (⟨(Sp.cutL 58 x.data.toList).toArray⟩ : ByteArray).size ≤ x.size := by rw [← e1, ByteArray.size_extract]; omega
    have s2 : (⟨(Sp.cutR 58 x.data.toList).toArray⟩ : ByteArray).size ≤ x.size := by rw [← e2, ByteArray.size_extract]; omega
    have s3 : (⟨(Sp.trim (Sp.cutR 58 x.data.toList)).toArray⟩ : ByteArray).size ≤ x.size := by
      have := Sp.trim_length (Sp.cutR 58 x.data.toList)
      rw [mk_size] at s2 ⊢
      omega
    rw [if_neg (by omega), if_pos (by omega), if_pos (by omega), Int.toNat_natCast, e1, RefName_ev _ (by omega) _ (by omega), Option.bind_some, hc, Bool.true_and]
    have hw : wrap64 ((n : Int) + 1) = ((n + 1 : Nat) : Int) := wrap_nx n (by omega)
    show lockageref05_Parse.j2 (k' + 1) x (n : Int) (!Sp.nameB (Sp.cutL 58 x.data.toList)) = _
    rw [lockageref05_Parse.j2]
    cases hN : Sp.nameB (Sp.cutL 58 x.data.toList) with
    | false => rw [if_pos (by decide), Bool.false_and, if_neg (by decide)]
    | true =>
      rw [if_neg (by decide), if_pos (by omega), if_pos (by omega), hw, if_pos (by omega), if_pos (by omega), Int.toNat_natCast, Int.toNat_natCast, e2, RefTrim_ev _ (by omega) _ (by omega), Option.bind_some, RefValue_ev _ (by show (⟨(Sp.trim (Sp.cutR 58 x.data.toList)).toArray⟩ : ByteArray).size ≤ _; omega) _ (by show 4 * (⟨(Sp.trim (Sp.cutR 58 x.data.toList)).toArray⟩ : ByteArray).size + 10 ≤ _; omega), Option.bind_some, Bool.true_and, e1]
      show (if Sp.valB (Sp.trim (Sp.cutR 58 x.data.toList)) = true then some ((⟨(Sp.cutL 58 x.data.toList).toArray⟩ : ByteArray), (⟨(Sp.trim (Sp.cutR 58 x.data.toList)).toArray⟩ : ByteArray), (0 : Int)) else some ((⟨#[]⟩ : ByteArray), (⟨#[]⟩ : ByteArray), (21 : Int))) = _
      split <;> rfl
  · have hc : Sp.cutIs 58 x.data.toList = false := by
      cases e : Sp.cutIs 58 x.data.toList with
      | false => rfl
      | true => unfold Sp.cutIs at e; rw [List.contains_iff_mem] at e; exact absurd (hmem.2 e) hm
    rw [if_pos (by omega), lockageref05_Parse.j2, if_pos rfl, hc, Bool.false_and, if_neg (by decide)]
theorem FParse_ev (x : ByteArray) (hx : x.size ≤ 9223372036854775000) (k : Nat) (hk : 1 ≤ k) : field_Parse.f k x = some (fieldP x.data.toList) := by
  obtain ⟨k, rfl⟩ : ∃ j, k = j + 1 := ⟨k - 1, by omega⟩
  have hsz := size_data x
  have h1 := Sp.cutL_length 58 x.data.toList
  have h2 := Sp.cutR_length 58 x.data.toList
  have h3 := Sp.trim_length (Sp.cutR 58 x.data.toList)
  unfold field_Parse.f strings_Cut.f fieldP
  rw [if_pos (by omega), Option.bind_some]
  dsimp only
  rw [trim_f (by rw [mk_size]; show (Sp.cutR 58 x.data.toList).length ≤ _; omega), Option.bind_some]
  show (if Sp.cutIs 58 x.data.toList = true then _ else _) = _
  cases hc : Sp.cutIs 58 x.data.toList with
  | false => rw [if_neg (by decide), field_Parse.j0, if_pos rfl, Bool.false_and, if_neg (by decide)]
  | true =>
    rw [if_pos rfl, name_f (by rw [mk_size]; show (Sp.cutL 58 x.data.toList).length ≤ _; omega), Option.bind_some, Bool.true_and]
    show (if Sp.nameB (Sp.cutL 58 x.data.toList) = true then _ else _) = _
    cases hN : Sp.nameB (Sp.cutL 58 x.data.toList) with
    | false => rw [if_neg (by decide), field_Parse.j0, if_pos rfl, Bool.false_and, if_neg (by decide)]
    | true =>
      rw [if_pos rfl, value_f (by rw [mk_size]; show (Sp.trim (Sp.cutR 58 x.data.toList)).length ≤ _; omega), Option.bind_some, field_Parse.j0, Bool.true_and]
      show (if (!Sp.valB (Sp.trim (Sp.cutR 58 x.data.toList))) = true then _ else _) = _
      cases hV : Sp.valB (Sp.trim (Sp.cutR 58 x.data.toList)) with
      | false => rw [if_pos (by decide), if_neg (by decide)]
      | true => rw [if_neg (by decide), if_pos rfl]
end Go.Proofs.YthemlbefkdmegaaDoor.P
namespace Go.Proofs.YthemlbefkdmegaaDoor.P
open Go.RowKit Go.Proofs.YthemlbefkdmegaaDoorW.PrintWords Go.Proofs.YthemlbefkdmegaaDoorW.PrintLast Go.Proofs.YthemlbefkdmegaaDoorW.PrintMore
/-! ### digits -/
def hex3 (n : Nat) : List UInt8 := if n < 16 then [H.dg n] else if n < 256 then [H.dg (n / 16), H.dg (n % 16)] else [H.dg (n / 16 / 16), H.dg (n / 16 % 16), H.dg (n % 16)]
theorem hexL_3 (n : Nat) (h : n < 4096) : H.hexL n = hex3 n := by
  unfold hex3
  by_cases h1 : n < 16
  · rw [if_pos h1, H.hexL_one h1]
  · rw [if_neg h1, H.hexL_more h1]
    by_cases h2 : n < 256
    · rw [if_pos h2, H.hexL_one (by omega)]; rfl
    · rw [if_neg h2, H.hexL_more (by omega), H.hexL_one (by omega)]; rfl
def hexOk (n : Nat) : Bool := Sp.cutL 59 (hex3 n) == hex3 n && (Sp.trim (hex3 n) == hex3 n && (parseX (hex3 n) == ((n : Int), 0) && ((hex3 n).all (· != 10) && decide ((hex3 n).length ≤ 3))))
theorem hexOk_all : ((List.range 4001).all hexOk) = true := by kernel_rfl
theorem hex_ok {n : Nat} (h : n ≤ 4000) : Sp.cutL 59 (H.hexL n) = H.hexL n ∧ Sp.trim (H.hexL n) = H.hexL n ∧ parseX (H.hexL n) = ((n : Int), 0) ∧ (∀ b ∈ H.hexL n, b ≠ 10) ∧ (H.hexL n).length ≤ 3 := by
  have a := hexOk_all
  rw [List.all_eq_true] at a
  have := a n (List.mem_range.2 (by omega))
  unfold hexOk at this
  rw [hexL_3 n (by omega)]
  simp only [Bool.and_eq_true, beq_iff_eq, decide_eq_true_eq, List.all_eq_true, bne_iff_ne] at this
  exact ⟨this.1, this.2.1, this.2.2.1, this.2.2.2.1, this.2.2.2.2⟩
/-! ### lines -/
theorem line_size (n : Nat) (many : Int) (hn : (n : Int) ≤ 4000 - many) (hm : 0 ≤ many) (k : Nat) (hk : 60 ≤ k) :
    chunk_line.f k 0 0 many ⟨(H.hexL n).toArray⟩ = some (0, if n = 0 then 3 else 1, (n : Int)) := by
  obtain ⟨h1, h2, h3, _, h5⟩ := hex_ok (n := n) (by omega)
  have hs : (⟨(H.hexL n).toArray⟩ : ByteArray).size ≤ 9223372036854775806 := by rw [mk_size]; omega
  have e1 : strings_Cut.f ⟨(H.hexL n).toArray⟩ ⟨#[59]⟩ = some (⟨(H.hexL n).toArray⟩, ⟨(Sp.cutR 59 (H.hexL n)).toArray⟩, Sp.cutIs 59 (H.hexL n)) := by
    unfold strings_Cut.f
    rw [if_pos hs]
    show some ((⟨(Sp.cutL 59 (H.hexL n)).toArray⟩ : ByteArray), _, _) = _
    rw [h1]
  have e2 : chunk_size.f k many ⟨(H.hexL n).toArray⟩ = some (0, (n : Int)) := by
    unfold chunk_size.f
    rw [e1, Option.bind_some]
    dsimp only
    rw [trim_f hs, Option.bind_some]
    show (num_Parse.f k (⟨(Sp.trim (H.hexL n)).toArray⟩ : ByteArray) 16).bind _ = _
    rw [h2, Parse_evx _ hs k (by rw [mk_size]; omega)]
    show (some (parseX (H.hexL n))).bind _ = _
    rw [h3, Option.bind_some]
    dsimp only
    rw [if_neg (by decide), if_pos rfl, if_neg (by omega)]
  unfold chunk_line.f
  rw [if_pos rfl, e2, Option.bind_some]
  dsimp only
  by_cases h : n = 0
  · subst h; rfl
  · rw [if_neg h, if_neg (by omega), if_neg (by omega)]
theorem empty_list : (⟨#[]⟩ : ByteArray).toList = [] := by rw [ByteArray.toList_eq]
theorem line_gap (left many : Int) (k : Nat) : chunk_line.f k 2 left many ⟨#[]⟩ = some (0, 0, left) := by
  unfold chunk_line.f
  rw [if_neg (by decide), if_pos rfl, if_pos empty_list]
theorem line_end (left many : Int) (k : Nat) : chunk_line.f k 3 left many ⟨#[]⟩ = some (0, 4, left) := by
  unfold chunk_line.f
  rw [if_neg (by decide), if_neg (by decide), if_pos rfl, if_pos empty_list]
theorem byte_data (line : ByteArray) (c : UInt8) : (line ++ byteB c).data.toList = line.data.toList ++ [c] := by
  rw [ByteArray.data_append, Array.toList_append]; rfl
theorem byte_size (line : ByteArray) (c : UInt8) : (line ++ byteB c).size = line.size + 1 := by
  rw [ByteArray.size_append]; rfl
theorem endB_no (line : ByteArray) {c : UInt8} (h : c ≠ 10) : endB (line ++ byteB c) = false := by
  unfold endB Lib.hasSuffix
  rw [byte_data, Bool.eq_false_iff]
  intro e
  rw [List.isSuffixOf_iff_suffix] at e
  obtain ⟨t, ht⟩ := e
  have := congrArg List.getLast? ht
  simp at this
  exact h this.symm
theorem endB_yes (line : ByteArray) : endB ((line ++ byteB 13) ++ byteB 10) = true ∧ cutB ((line ++ byteB 13) ++ byteB 10) = line := by
  have e : ((line ++ byteB 13) ++ byteB 10).data.toList = line.data.toList ++ [13, 10] := by rw [byte_data, byte_data]; simp
  have h : Lib.hasSuffix ((line ++ byteB 13) ++ byteB 10).data.toList [13, 10] = true := by
    unfold Lib.hasSuffix
    rw [e, List.isSuffixOf_iff_suffix]
    exact ⟨_, rfl⟩
  refine ⟨h, ?_⟩
  unfold cutB Lib.trimSuffix
  rw [if_pos h, e]
  apply H.ba_ext
  simp
/-! ### steps -/
theorem at_drop {T : ByteArray} {i : Nat} {c : UInt8} {r : List UInt8} (h : T.data.toList.drop i = c :: r) : i < T.size ∧ T.data.toList.getD i 0 = c ∧ T.data.toList.drop (i + 1) = r := by
  have hlt : i < T.data.toList.length := by
    rcases Nat.lt_or_ge i T.data.toList.length with h' | h'
    · exact h'
    · rw [List.drop_of_length_le h'] at h; cases h
  have e := List.drop_eq_getElem_cons hlt
  rw [h] at e
  injection e with e1 e2
  refine ⟨by rw [← size_data]; exact hlt, ?_, e2.symm⟩
  rw [List.getD_eq_getElem?_getD, List.getElem?_eq_getElem hlt, Option.getD_some, ← e1]
theorem drop_app {T : ByteArray} {i : Nat} {l r : List UInt8} (h : T.data.toList.drop i = l ++ r) : T.data.toList.drop (i + l.length) = r := by
  rw [← List.drop_drop, h, List.drop_left]
theorem step_one {T : ByteArray} {i k : Nat} {st left : Int} {line : ByteArray} {many : Int} {body : ByteArray} {c : UInt8} {r : List UInt8} {p1 p2 : Int} {p3 : ByteArray} (hi : T.data.toList.drop i = c :: r) (h4 : st ≠ 4) (h1 : st ≠ 1) (hm : 0 ≤ many ∧ many ≤ 1000000)
    (ho : chunk_one.f k st left line many c = some (0, p1, p2, p3)) : chunk_Feed.l0 (k + 1) T i st left line many body = chunk_Feed.l0 k T (i + 1) p1 p2 p3 many body := by
  obtain ⟨a, b, _⟩ := at_drop hi
  rw [chunk_Feed.l0, if_pos a, if_neg h4, if_pos hm, if_neg h1, b, ho, Option.bind_some, if_pos rfl]
theorem one_mid {k : Nat} {st left : Int} {line : ByteArray} {many : Int} {c : UInt8} (h : c ≠ 10) (hs : line.size ≤ 199) : chunk_one.f k st left line many c = some (0, st, left, line ++ byteB c) := by
  unfold chunk_one.f
  rw [if_pos (by omega), endB_no line h, if_neg (by decide), if_neg (by rw [byte_size]; omega)]
theorem run_line {T : ByteArray} {st left many : Int} {body : ByteArray} (h4 : st ≠ 4) (h1 : st ≠ 1) (hm : 0 ≤ many ∧ many ≤ 1000000) : ∀ (l : List UInt8) (line : ByteArray) (i k : Nat) (r : List UInt8), T.data.toList.drop i = l ++ r → (∀ b ∈ l, b ≠ 10) → line.size + l.length ≤ 200 →
    chunk_Feed.l0 (k + l.length) T i st left line many body = chunk_Feed.l0 k T (i + l.length) st left (line ++ ⟨l.toArray⟩) many body
  | [], line, i, k, r, hi, hb, hs => by
    have e : line ++ (⟨([] : List UInt8).toArray⟩ : ByteArray) = line := H.ba_ext (by rw [ByteArray.data_append]; simp)
    rw [e]; rfl
  | c :: l, line, i, k, r, hi, hb, hs => by
    rw [List.length_cons] at hs
    rw [List.length_cons, ← Nat.add_assoc, step_one hi h4 h1 hm (one_mid (hb c List.mem_cons_self) (by omega)), run_line h4 h1 hm l (line ++ byteB c) (i + 1) k r (at_drop hi).2.2 (fun b h => hb b (List.mem_cons_of_mem _ h)) (by rw [byte_size]; omega)]
    have e : (line ++ byteB c) ++ (⟨l.toArray⟩ : ByteArray) = line ++ ⟨(c :: l).toArray⟩ := H.ba_ext (by
      rw [ByteArray.data_append, Array.toList_append, byte_data, ByteArray.data_append, Array.toList_append]; simp)
    rw [e, show i + (l.length + 1) = i + 1 + l.length by omega]
theorem end_line {T : ByteArray} {st left many : Int} {body : ByteArray} (h4 : st ≠ 4) (h1 : st ≠ 1) (hm : 0 ≤ many ∧ many ≤ 1000000) {line : ByteArray} {i k : Nat} {r : List UInt8} {p2 p3 : Int} (hi : T.data.toList.drop i = 13 :: 10 :: r) (hs : line.size ≤ 190) (hl : chunk_line.f k st left many line = some (0, p2, p3)) :
    chunk_Feed.l0 (k + 2) T i st left line many body = chunk_Feed.l0 k T (i + 2) p2 p3 ⟨#[]⟩ many body := by
  rw [step_one (k := k + 1) hi h4 h1 hm (one_mid (by decide) (by omega)), step_one (k := k) (at_drop hi).2.2 h4 h1 hm (p1 := p2) (p2 := p3) (p3 := ⟨#[]⟩)]
  unfold chunk_one.f
  rw [if_pos (by rw [byte_size]; omega), (endB_yes line).1, if_pos rfl, (endB_yes line).2, hl, Option.bind_some]
theorem take_chunk {T : ByteArray} {many : Int} {body line : ByteArray} (hm : 0 ≤ many ∧ many ≤ 1000000) (hb : body.size ≤ 1000000) {i k : Nat} {l r : List UInt8} (hi : T.data.toList.drop i = l ++ r) (hl : 1 ≤ l.length) (hl2 : l.length ≤ 4000) :
    chunk_Feed.l0 (k + 1) T i 1 (l.length : Int) line many body = chunk_Feed.l0 k T (i + l.length) 2 0 line (many + (l.length : Int)) (body ++ ⟨l.toArray⟩) := by
  have hlen := congrArg List.length hi
  rw [List.length_drop, List.length_append, size_data] at hlen
  have hlt : i < T.size := by omega
  have hmin : min (T.size - i) (l.length : Int).toNat = l.length := by omega
  have e : (T.extract i T.size).extract 0 l.length = ⟨l.toArray⟩ := H.ba_ext (by
    rw [ByteArray.data_extract, ByteArray.data_extract, Array.toList_extract, Array.toList_extract]
    simp only [List.extract_eq_take_drop, List.drop_zero, Nat.sub_zero]
    rw [hi, List.take_take, List.take_append_of_le_length (by omega), List.take_of_length_le (by omega)])
  rw [chunk_Feed.l0, if_pos hlt, if_neg (by decide), if_pos hm, if_pos rfl, if_pos (by omega), hmin, e, Int.toNat_natCast, Nat.sub_self, if_pos rfl]
  rfl
theorem chunk_data (n : Nat) (s : ByteArray) : (oneChunk n s).data.toList = H.hexL n ++ (13 :: 10 :: ((s.extract 0 n).data.toList ++ [13, 10])) := by
  unfold oneChunk
  simp [ByteArray.data_append, Array.toList_append]
theorem chunk_size (n : Nat) (s : ByteArray) (h : n ≤ s.size) : (oneChunk n s).size = (H.hexL n).length + n + 4 := by
  rw [← size_data, chunk_data]
  simp only [List.length_append, List.length_cons, List.length_nil]
  rw [size_data, ByteArray.size_extract]
  omega
/-- A whole chunk is read. -/
theorem feed_chunk {T : ByteArray} {many : Int} {body s : ByteArray} {n i : Nat} {r : List UInt8} (hi : T.data.toList.drop i = (oneChunk n s).data.toList ++ r) (h1 : 1 ≤ n) (h2 : n ≤ s.size) (hm : 0 ≤ many) (hn : (n : Int) ≤ 4000 - many) (hb : body.size ≤ 1000000) (k : Nat) (hk : 60 ≤ k) :
    chunk_Feed.l0 (k + 5 + (H.hexL n).length) T i 0 0 ⟨#[]⟩ many body = chunk_Feed.l0 k T (i + (oneChunk n s).size) 0 0 ⟨#[]⟩ (many + (n : Int)) (body ++ s.extract 0 n) := by
  obtain ⟨_, _, _, h10, hl3⟩ := hex_ok (n := n) (by omega)
  have hxl : (s.extract 0 n).data.toList.length = n := by rw [size_data, ByteArray.size_extract]; omega
  rw [chunk_data, List.append_assoc] at hi
  have hi1 := drop_app hi
  rw [List.cons_append, List.cons_append] at hi1
  have e0 : (⟨#[]⟩ : ByteArray) ++ (⟨(H.hexL n).toArray⟩ : ByteArray) = ⟨(H.hexL n).toArray⟩ := H.ba_ext (by rw [ByteArray.data_append]; simp)
  rw [run_line (by decide) (by decide) (by omega) (H.hexL n) ⟨#[]⟩ i (k + 5) _ hi h10 (by show 0 + _ ≤ _; omega), e0]
  have hz : (⟨(H.hexL n).toArray⟩ : ByteArray).size ≤ 190 := by rw [mk_size]; omega
  have hl := line_size n many hn hm (k + 3) (by omega)
  rw [if_neg (by omega)] at hl
  rw [show k + 5 = k + 3 + 2 by omega, end_line (by decide) (by decide) (by omega) hi1 hz hl]
  have hi2 := (at_drop (at_drop hi1).2.2).2.2
  rw [List.append_assoc] at hi2
  have ht := take_chunk (T := T) (many := many) (body := body) (line := ⟨#[]⟩) (by omega) hb (k := k + 2) hi2 (by omega) (by omega)
  rw [hxl] at ht
  have ex : (⟨(s.extract 0 n).data.toList.toArray⟩ : ByteArray) = s.extract 0 n := H.ba_ext (by simp)
  rw [ex] at ht
  rw [show k + 3 = k + 2 + 1 by omega, ht]
  have hi3 := drop_app hi2
  rw [hxl, List.cons_append, List.cons_append] at hi3
  rw [end_line (by decide) (by decide) (by omega) hi3 (by show 0 ≤ 190; omega) (line_gap 0 (many + (n : Int)) k)]
  rw [chunk_size n s h2]
  congr 1
  omega
def tailB : ByteArray := ⟨#[48, 13, 10, 13, 10]⟩
/-- The end is read. -/
theorem feed_tail {T : ByteArray} {many : Int} {body : ByteArray} {i : Nat} {r : List UInt8} (hi : T.data.toList.drop i = tailB.data.toList ++ r) (hm : 0 ≤ many) (hn : many ≤ 4000) (k : Nat) (hk : 60 ≤ k) :
    chunk_Feed.l0 (k + 6) T i 0 0 ⟨#[]⟩ many body = some (0, 4, 0, ⟨#[]⟩, many, i + 5, body) := by
  have hi0 : T.data.toList.drop i = [48] ++ (13 :: 10 :: 13 :: 10 :: r) := hi
  have hx : H.hexL 0 = [48] := by rw [H.hexL_one (by decide)]; rfl
  have hl := line_size 0 many (by omega) hm (k + 3) (by omega)
  rw [if_pos rfl, hx] at hl
  have e0 : (⟨#[]⟩ : ByteArray) ++ (⟨([48] : List UInt8).toArray⟩ : ByteArray) = ⟨([48] : List UInt8).toArray⟩ := H.ba_ext (by rw [ByteArray.data_append]; simp)
  have h1 := run_line (T := T) (st := 0) (left := 0) (many := many) (body := body) (by decide) (by decide) (by omega) [48] ⟨#[]⟩ i (k + 5) _ hi0 (by decide) (by decide)
  rw [e0] at h1
  have hi1 := drop_app hi0
  have h2 := end_line (T := T) (body := body) (k := k + 3) (by decide) (by decide) (by omega) hi1 (by decide) hl
  have hi2 := (at_drop (at_drop hi1).2.2).2.2
  have h3 := end_line (T := T) (body := body) (st := 3) (left := 0) (many := many) (k := k + 1) (line := ⟨#[]⟩) (by decide) (by decide) (by omega) hi2 (by decide) (line_end 0 many (k + 1))
  have h1' : chunk_Feed.l0 (k + 6) T i 0 0 ⟨#[]⟩ many body = chunk_Feed.l0 (k + 5) T (i + 1) 0 0 ⟨([48] : List UInt8).toArray⟩ many body := h1
  have h2' : chunk_Feed.l0 (k + 3 + 2) T (i + 1) 0 0 ⟨([48] : List UInt8).toArray⟩ many body = chunk_Feed.l0 (k + 1 + 2) T (i + 1 + 2) 3 0 ⟨#[]⟩ many body := h2
  have h3' : chunk_Feed.l0 (k + 1 + 2) T (i + 1 + 2) 3 0 ⟨#[]⟩ many body = chunk_Feed.l0 (k + 1) T (i + 1 + 2 + 2) 4 0 ⟨#[]⟩ many body := h3
  rw [h1', show k + 5 = k + 3 + 2 by omega, h2', h3', show i + 1 + 2 + 2 = i + 5 by omega]
  rw [chunk_Feed.l0]
  by_cases h : i + 5 < T.size
  · rw [if_pos h, if_pos rfl]
  · rw [if_neg h]
theorem extract_parts (s : ByteArray) (n : Nat) (h : n ≤ s.size) : s.extract 0 n ++ s.extract n s.size = s := H.ba_ext (by
  rw [ByteArray.data_append, Array.toList_append, ByteArray.data_extract, ByteArray.data_extract, Array.toList_extract, Array.toList_extract]
  simp only [List.extract_eq_take_drop, List.drop_zero, Nat.sub_zero]
  rw [List.take_of_length_le (l := s.data.toList.drop n) (by rw [List.length_drop, size_data]; omega), List.take_append_drop])
/-- What is encoded, and that it is read back. -/
theorem enc_feed (size : Int) (hsz : 1 ≤ size ∧ size ≤ 4000) : ∀ (m : Nat) (s out : ByteArray), s.size ≤ m → s.size ≤ 4000 → out.size + 30 * s.size ≤ 900000 →
    ∃ c : ByteArray, (∀ k, m + 1 ≤ k → chunk_Encode.l0 k size s out = some (out ++ c)) ∧ c.size ≤ 30 * s.size + 5 ∧
      ∀ (T : ByteArray) (i : Nat) (r : List UInt8) (many : Int) (body : ByteArray), T.data.toList.drop i = c.data.toList ++ r → 0 ≤ many → many + s.size ≤ 4000 → body.size + s.size ≤ 10000 →
        ∀ k, 100 + 40 * s.size ≤ k → chunk_Feed.l0 k T i 0 0 ⟨#[]⟩ many body = some (0, 4, 0, ⟨#[]⟩, many + s.size, i + c.size, body ++ s)
  | m, s, out, hm, h4, ho => by
    by_cases h0 : s.size = 0
    · have es : s = ⟨#[]⟩ := H.ba_ext (by
        have : s.data.toList.length = 0 := by rw [size_data]; exact h0
        simpa using List.eq_nil_of_length_eq_zero this)
      refine ⟨tailB, fun k hk => ?_, by rw [h0]; decide, fun T i r many body hi hm0 hm1 hb k hk => ?_⟩
      · obtain ⟨k, rfl⟩ : ∃ j, k = j + 1 := ⟨k - 1, by omega⟩
        rw [chunk_Encode.l0, if_neg (by omega), if_pos (by omega)]
        rfl
      · obtain ⟨k, rfl⟩ : ∃ j, k = j + 6 := ⟨k - 6, by omega⟩
        rw [feed_tail hi hm0 (by omega) k (by omega), h0, es]
        have e : body ++ (⟨#[]⟩ : ByteArray) = body := H.ba_ext (by rw [ByteArray.data_append]; simp)
        rw [e]
        simp
        rfl
    · match m, hm with
      | 0, hm => omega
      | m + 1, hm =>
      obtain ⟨n, hn⟩ : ∃ n, n = min size.toNat s.size := ⟨_, rfl⟩
      have hn1 : 1 ≤ n ∧ n ≤ s.size := by omega
      have hs' : (s.extract n s.size).size = s.size - n := by rw [ByteArray.size_extract]; omega
      obtain ⟨_, _, _, _, hl3⟩ := hex_ok (n := n) (by omega)
      have hcs := chunk_size n s hn1.2
      obtain ⟨c, g1, g2, g3⟩ := enc_feed size hsz m (s.extract n s.size) (out ++ oneChunk n s) (by omega) (by omega) (by rw [ByteArray.size_append]; omega)
      refine ⟨oneChunk n s ++ c, fun k hk => ?_, by rw [ByteArray.size_append]; omega, fun T i r many body hi hm0 hm1 hb k hk => ?_⟩
      · obtain ⟨k, rfl⟩ : ∃ j, k = j + 1 := ⟨k - 1, by omega⟩
        rw [chunk_Encode.l0, if_pos (by omega), if_pos (by omega), ← hn, g1 k (by omega), ByteArray.append_assoc]
      · rw [ByteArray.data_append, Array.toList_append, List.append_assoc] at hi
        obtain ⟨k, rfl⟩ : ∃ j, k = j + 5 + (H.hexL n).length := ⟨k - 5 - (H.hexL n).length, by omega⟩
        rw [feed_chunk hi hn1.1 hn1.2 hm0 (by omega) (by omega) k (by omega)]
        have hi2 := drop_app hi
        rw [size_data] at hi2
        rw [g3 T (i + (oneChunk n s).size) r (many + (n : Int)) (body ++ s.extract 0 n) hi2 (by omega) (by omega) (by rw [ByteArray.size_append, ByteArray.size_extract]; omega) k (by omega)]
        have e1 : (body ++ s.extract 0 n) ++ s.extract n s.size = body ++ s := by rw [ByteArray.append_assoc, extract_parts s n hn1.2]
        have e2 : many + (n : Int) + ((s.extract n s.size).size : Int) = many + (s.size : Int) := by omega
        have e3 : i + (oneChunk n s).size + c.size = i + (oneChunk n s ++ c).size := by rw [ByteArray.size_append]; omega
        rw [e1, e2, e3]
end Go.Proofs.YthemlbefkdmegaaDoor.P
namespace Go.Proofs.YthemlbefkdmegaaDoor.P
open Go.RowKit Go.Proofs.YthemlbefkdmegaaDoorW.PrintWords Go.Proofs.YthemlbefkdmegaaDoorW.PrintLast Go.Proofs.YthemlbefkdmegaaDoorW.PrintMore
structure Ck where
  st : Int
  left : Int
  line : ByteArray
  many : Int
/-- A state that is come to: B bounds what may still be read and has been. -/
structure Inv (B : Int) (c : Ck) : Prop where
  s0 : 0 ≤ c.st
  s4 : c.st ≤ 4
  l0 : 0 ≤ c.left
  m0 : 0 ≤ c.many
  sum : c.left + c.many ≤ B
  one : c.st = 1 ↔ 0 < c.left
  line : c.line.size ≤ 200
  none : c.st = 1 ∨ c.st = 4 → c.line = ⟨#[]⟩
theorem inv_of {B st left many : Int} {line : ByteArray} (a : 0 ≤ st) (b : st ≤ 4) (c : 0 ≤ left) (d : 0 ≤ many) (e : left + many ≤ B) (f : st = 1 ↔ 0 < left) (g : line.size ≤ 200) (h : st = 1 ∨ st = 4 → line = ⟨#[]⟩) : Inv B ⟨st, left, line, many⟩ := ⟨a, b, c, d, e, f, g, h⟩
theorem field_total (s : ByteArray) (h : s.size ≤ 9223372036854775806) (k : Nat) : ∃ r, field_Parse.f (k + 1) s = some r := by
  have h1 := Sp.cutL_length 58 s.data.toList
  have h2 := Sp.cutR_length 58 s.data.toList
  have h3 := Sp.trim_length (Sp.cutR 58 s.data.toList)
  rw [size_data] at h1 h2
  unfold field_Parse.f strings_Cut.f
  rw [if_pos h, Option.bind_some]
  dsimp only
  rw [trim_f (by rw [mk_size]; show (Sp.cutR 58 s.data.toList).length ≤ _; omega), Option.bind_some]
  have hj : ∀ (x : Bool) (a b : ByteArray), ∃ r, field_Parse.j0 (k + 1) x a b = some r := fun x a b => by
    rw [field_Parse.j0]
    split
    · exact ⟨_, rfl⟩
    · exact ⟨_, rfl⟩
  split
  · rw [name_f (by rw [mk_size]; show (Sp.cutL 58 s.data.toList).length ≤ _; omega), Option.bind_some]
    split
    · rw [value_f (by rw [mk_size]; show (Sp.trim (Sp.cutR 58 s.data.toList)).length ≤ _; omega), Option.bind_some]
      exact hj _ _ _
    · exact hj _ _ _
  · exact hj _ _ _
theorem numX_ge : ∀ (l : List UInt8) (n m : Int), l.all isHex = true → 0 ≤ n → numX l n = some m → 0 ≤ m
  | [], n, m, _, h, e => by
    injection e with e
    omega
  | c :: l, n, m, ha, h, e => by
    rw [List.all_cons, Bool.and_eq_true] at ha
    have := (digX_yes ha.1).1
    rw [numX] at e
    split at e
    · exact numX_ge l _ m ha.2 (by omega) e
    · cases e
theorem parseX_ge (l : List UInt8) : 0 ≤ (parseX l).1 := by
  unfold parseX
  split
  · decide
  · split
    · rename_i h
      cases e : numX l 0 with
      | none => decide
      | some m => exact numX_ge l 0 m h (by decide) e
    · decide
/-- A whole line comes to something; and to a state that is come to, if it is no error. -/
theorem line_total (B : Int) (hB : 4000 ≤ B) (st left many : Int) (s : ByteArray) (hs : s.size ≤ 1000) (h0 : st = 0 ∨ st = 2 ∨ st = 3) (hl : left = 0) (hm : 0 ≤ many ∧ many ≤ B) :
    ∃ e s' l', chunk_line.f 4000 st left many s = some (e, s', l') ∧ (e = 0 → Inv B ⟨s', l', ⟨#[]⟩, many⟩) := by
  subst hl
  rcases h0 with rfl | rfl | rfl
  · have h1 := Sp.cutL_length 59 s.data.toList
    have h3 := Sp.trim_length (Sp.cutL 59 s.data.toList)
    rw [size_data] at h1
    have e2 : ∃ e n, chunk_size.f 4000 many s = some (e, n) ∧ (e = 0 → 0 ≤ n ∧ n ≤ 4000 - many) := by
      unfold chunk_size.f strings_Cut.f
      rw [if_pos (by omega), Option.bind_some]
      dsimp only
      rw [trim_f (by rw [mk_size]; omega), Option.bind_some, Parse_evx _ (by rw [mk_size]; show (Sp.trim (Sp.cutL 59 s.data.toList)).length ≤ _; omega) _ (by rw [mk_size]; show 2 * (Sp.trim (Sp.cutL 59 s.data.toList)).length + 40 ≤ _; omega), Option.bind_some]
      have hg := parseX_ge (Sp.trim (Sp.cutL 59 s.data.toList))
      split
      · exact ⟨_, _, rfl, fun h => absurd h (by decide)⟩
      · split
        · split
          · exact ⟨_, _, rfl, fun h => absurd h (by decide)⟩
          · rename_i h
            exact ⟨_, _, rfl, fun _ => ⟨hg, by omega⟩⟩
        · exact ⟨_, _, rfl, fun h => absurd h (by decide)⟩
    obtain ⟨e, n, e3, e4⟩ := e2
    refine ⟨e, if n = 0 then 3 else 1, if n = 0 then 0 else n, ?_, fun h => ?_⟩
    · unfold chunk_line.f
      rw [if_pos rfl, e3, Option.bind_some]
    · have := e4 h
      by_cases hn : n = 0
      · rw [if_pos hn, if_pos hn]
        exact inv_of (by decide) (by decide) (by decide) hm.1 (by omega) (by decide) (by decide) (fun _ => rfl)
      · rw [if_neg hn, if_neg hn]
        exact inv_of (by decide) (by decide) this.1 hm.1 (by omega) (by omega) (by decide) (fun _ => rfl)
  · unfold chunk_line.f
    rw [if_neg (by decide), if_pos rfl]
    split
    · exact ⟨_, _, _, rfl, fun _ => inv_of (by decide) (by decide) (by decide) hm.1 (by omega) (by decide) (by decide) (fun _ => rfl)⟩
    · exact ⟨_, _, _, rfl, fun h => absurd h (by decide)⟩
  · unfold chunk_line.f
    rw [if_neg (by decide), if_neg (by decide), if_pos rfl]
    split
    · exact ⟨_, _, _, rfl, fun _ => inv_of (by decide) (by decide) (by decide) hm.1 (by omega) (by decide) (by decide) (fun _ => rfl)⟩
    · obtain ⟨r, hr⟩ := field_total s (by omega) 3999
      rw [hr, Option.bind_some]
      exact ⟨_, _, _, rfl, fun _ => inv_of (by decide) (by decide) (by decide) hm.1 (by omega) (by decide) (by decide) (fun _ => rfl)⟩
theorem cutB_size (l : ByteArray) : (cutB l).size ≤ l.size := by
  unfold cutB Lib.trimSuffix
  rw [mk_size, ← size_data l]
  split
  · rw [List.length_take]; omega
  · exact Nat.le_refl _
theorem one_total (B : Int) (hB : 4000 ≤ B) (c : Ck) (h : Inv B c) (h1 : c.st ≠ 1) (h4 : c.st ≠ 4) (b : UInt8) :
    ∃ e s' l' li, chunk_one.f 4000 c.st c.left c.line c.many b = some (e, s', l', li) ∧ (e = 0 → Inv B ⟨s', l', li, c.many⟩) := by
  have hl : c.left = 0 := by
    have := h.one
    have := h.l0
    omega
  have hs := byte_size c.line b
  have hli := h.line
  have h0 : c.st = 0 ∨ c.st = 2 ∨ c.st = 3 := by
    have := h.s0
    have := h.s4
    omega
  unfold chunk_one.f
  rw [if_pos (by omega)]
  cases he : endB (c.line ++ byteB b) with
  | true =>
    rw [if_pos rfl]
    have hc := cutB_size (c.line ++ byteB b)
    obtain ⟨e, s', l', e1, e2⟩ := line_total B hB c.st c.left c.many (cutB (c.line ++ byteB b)) (by omega) h0 hl ⟨h.m0, by have := h.sum; have := h.l0; omega⟩
    rw [e1, Option.bind_some]
    exact ⟨e, s', l', _, rfl, e2⟩
  | false =>
    rw [if_neg (by decide)]
    split
    · exact ⟨_, _, _, _, rfl, fun h => absurd h (by decide)⟩
    · exact ⟨_, _, _, _, rfl, fun _ => inv_of h.s0 h.s4 h.l0 h.m0 h.sum h.one (by omega) (fun x => by rcases x with x | x; exact absurd x h1; exact absurd x h4)⟩
/-- A byte. -/
def stepB (c : Ck) (b : UInt8) : Int × Ck :=
  if c.st = 1 then (0, ⟨if c.left = 1 then 2 else 1, c.left - 1, c.line, c.many + 1⟩)
  else match chunk_one.f 4000 c.st c.left c.line c.many b with
    | some p => (p.1, ⟨p.2.1, p.2.2.1, p.2.2.2, c.many⟩)
    | none => (99, c)
theorem step_inv {B : Int} (hB : 4000 ≤ B) {c : Ck} (h : Inv B c) (h4 : c.st ≠ 4) (b : UInt8) (h0 : (stepB c b).1 = 0) : Inv B (stepB c b).2 := by
  unfold stepB at h0 ⊢
  by_cases h1 : c.st = 1
  · rw [if_pos h1]
    have hl := h.one.1 h1
    have := h.m0
    have := h.sum
    by_cases hc : c.left = 1
    · rw [if_pos hc]
      exact inv_of (by decide) (by decide) (by omega) (by omega) (by omega) (by omega) h.line (fun x => h.none (.inl h1))
    · rw [if_neg hc]
      exact inv_of (by decide) (by decide) (by omega) (by omega) (by omega) (by omega) h.line (fun x => h.none (.inl h1))
  · rw [if_neg h1] at h0 ⊢
    obtain ⟨e, s', l', li, e1, e2⟩ := one_total B hB c h h1 h4 b
    rw [e1] at h0 ⊢
    exact e2 h0
/-- Bytes: the error, the state, how many were read, and what of them is the body. -/
def feedL : List UInt8 → Ck → Int × Ck × Nat × List UInt8
  | [], c => (0, c, 0, [])
  | b :: l, c => if c.st = 4 then (0, c, 0, []) else
    if (stepB c b).1 = 0 then ((feedL l (stepB c b).2).1, (feedL l (stepB c b).2).2.1, (feedL l (stepB c b).2).2.2.1 + 1, (if c.st = 1 then [b] else []) ++ (feedL l (stepB c b).2).2.2.2)
    else ((stepB c b).1, c, 0, [])
theorem feedL_four (l : List UInt8) (c : Ck) (h : c.st = 4) : feedL l c = (0, c, 0, []) := by
  cases l with
  | nil => rfl
  | cons b l => rw [feedL, if_pos h]
theorem feedL_take : ∀ (l r : List UInt8) (left many : Int) (line : ByteArray), (l.length : Int) ≤ left → l ≠ [] →
    feedL (l ++ r) ⟨1, left, line, many⟩ = ((feedL r ⟨if left = l.length then 2 else 1, left - l.length, line, many + l.length⟩).1, (feedL r ⟨if left = l.length then 2 else 1, left - l.length, line, many + l.length⟩).2.1, (feedL r ⟨if left = l.length then 2 else 1, left - l.length, line, many + l.length⟩).2.2.1 + l.length, l ++ (feedL r ⟨if left = l.length then 2 else 1, left - l.length, line, many + l.length⟩).2.2.2)
  | [], _, _, _, _, _, h => absurd rfl h
  | [b], r, left, many, line, h, _ => by
    rw [List.cons_append, List.nil_append, feedL, if_neg (show ¬ ((1 : Int) = 4) by decide)]
    have e : stepB ⟨1, left, line, many⟩ b = (0, ⟨if left = 1 then 2 else 1, left - 1, line, many + 1⟩) := by unfold stepB; rw [if_pos rfl]
    rw [e, if_pos rfl, if_pos rfl]
    rfl
  | b :: b2 :: l, r, left, many, line, h, _ => by
    rw [List.length_cons, List.length_cons] at h
    rw [List.cons_append, feedL, if_neg (show ¬ ((1 : Int) = 4) by decide)]
    have e : stepB ⟨1, left, line, many⟩ b = (0, ⟨1, left - 1, line, many + 1⟩) := by unfold stepB; rw [if_pos rfl, if_neg (show ¬ (left = 1) by omega)]
    rw [e, if_pos rfl, if_pos rfl]
    have ih := feedL_take (b2 :: l) r (left - 1) (many + 1) line (by rw [List.length_cons]; omega) (by simp)
    have e1 : left - 1 - ((b2 :: l).length : Int) = left - ((b :: b2 :: l).length : Int) := by rw [List.length_cons, List.length_cons, List.length_cons]; omega
    have e2 : many + 1 + ((b2 :: l).length : Int) = many + ((b :: b2 :: l).length : Int) := by rw [List.length_cons, List.length_cons, List.length_cons]; omega
    have e3 : (if left - 1 = ((b2 :: l).length : Int) then (2 : Int) else 1) = if left = ((b :: b2 :: l).length : Int) then 2 else 1 := by
      have hx : ((b :: b2 :: l).length : Int) = ((b2 :: l).length : Int) + 1 := rfl
      rw [hx]
      by_cases hc : left = ((b2 :: l).length : Int) + 1
      · rw [if_pos hc, if_pos (by omega)]
      · rw [if_neg hc, if_neg (by omega)]
    rw [e1, e2, e3] at ih
    show ((feedL (b2 :: l ++ r) ⟨1, left - 1, line, many + 1⟩).1, (feedL (b2 :: l ++ r) ⟨1, left - 1, line, many + 1⟩).2.1, (feedL (b2 :: l ++ r) ⟨1, left - 1, line, many + 1⟩).2.2.1 + 1, [b] ++ (feedL (b2 :: l ++ r) ⟨1, left - 1, line, many + 1⟩).2.2.2) = _
    rw [ih]
    rfl
end Go.Proofs.YthemlbefkdmegaaDoor.P
namespace Go.Proofs.YthemlbefkdmegaaDoor.P
open Go.RowKit Go.Proofs.YthemlbefkdmegaaDoorW.PrintWords Go.Proofs.YthemlbefkdmegaaDoorW.PrintLast Go.Proofs.YthemlbefkdmegaaDoorW.PrintMore
theorem app_nil (b : ByteArray) : b ++ (⟨([] : List UInt8).toArray⟩ : ByteArray) = b := H.ba_ext (by rw [ByteArray.data_append]; simp)
theorem app_two (b : ByteArray) (l m : List UInt8) : (b ++ (⟨l.toArray⟩ : ByteArray)) ++ (⟨m.toArray⟩ : ByteArray) = b ++ ⟨(l ++ m).toArray⟩ := H.ba_ext (by simp [ByteArray.data_append])
def feedR (i : Nat) (body : ByteArray) (q : Int × Ck × Nat × List UInt8) : Int × Int × Int × ByteArray × Int × Nat × ByteArray := (0, q.2.1.st, q.2.1.left, q.2.1.line, q.2.1.many, i + q.2.2.1, body ++ ⟨q.2.2.2.toArray⟩)
theorem feed_eq (B : Int) (hB : 4000 ≤ B) (hB2 : B ≤ 100000) (T : ByteArray) (hT : T.size ≤ 1000000) (d : Nat) : ∀ (i k : Nat) (c : Ck) (body : ByteArray), T.size - i ≤ d → i ≤ T.size → Inv B c → body.size + (T.size - i) ≤ 2000000 → 4000 + d + 1 ≤ k →
    ∃ r, chunk_Feed.l0 k T i c.st c.left c.line c.many body = some r ∧ r.1 = (feedL (T.data.toList.drop i) c).1 ∧ (r.1 = 0 → r = feedR i body (feedL (T.data.toList.drop i) c)) := by
  induction d with
  | zero =>
    intro i k c body hd hi hv hb hk
    obtain ⟨k, rfl⟩ : ∃ j, k = j + 1 := ⟨k - 1, by omega⟩
    rw [chunk_Feed.l0, if_neg (by omega), List.drop_of_length_le (by rw [size_data]; omega)]
    refine ⟨_, rfl, rfl, fun _ => ?_⟩
    unfold feedR
    rw [feedL, app_nil]
    rfl
  | succ d ih =>
    intro i k c body hd hi hv hb hk
    obtain ⟨k, rfl⟩ : ∃ j, k = j + 1 := ⟨k - 1, by omega⟩
    by_cases hlt : i < T.size
    · by_cases h4 : c.st = 4
      · rw [chunk_Feed.l0, if_pos hlt, if_pos h4, feedL_four _ c h4]
        refine ⟨_, rfl, rfl, fun _ => ?_⟩
        unfold feedR
        rw [app_nil]
        rfl
      · have hm : 0 ≤ c.many ∧ c.many ≤ 1000000 := ⟨hv.m0, by have := hv.sum; have := hv.l0; omega⟩
        by_cases h1 : c.st = 1
        · have hl1 := hv.one.1 h1
          have hsum := hv.sum
          obtain ⟨lf, hlf⟩ : ∃ lf : Nat, c.left = lf := ⟨c.left.toNat, by omega⟩
          obtain ⟨n, hn⟩ : ∃ n, n = min (T.size - i) lf := ⟨_, rfl⟩
          have hn1 : 1 ≤ n ∧ n ≤ T.size - i ∧ n ≤ lf := by omega
          have hll : ((T.data.toList.drop i).take n).length = n := by rw [List.length_take, List.length_drop, size_data]; omega
          have hsp : T.data.toList.drop i = (T.data.toList.drop i).take n ++ T.data.toList.drop (i + n) := by rw [← List.drop_drop, List.take_append_drop]
          have hex : (T.extract i T.size).extract 0 n = ⟨((T.data.toList.drop i).take n).toArray⟩ := H.ba_ext (by
            rw [ByteArray.data_extract, ByteArray.data_extract, Array.toList_extract, Array.toList_extract]
            simp only [List.extract_eq_take_drop, List.drop_zero, Nat.sub_zero]
            rw [List.take_of_length_le (l := T.data.toList.drop i) (by rw [List.length_drop, size_data]; omega)])
          have hexs : (⟨((T.data.toList.drop i).take n).toArray⟩ : ByteArray).size = n := by rw [mk_size, hll]
          have hst : (if lf - n = 0 then (2 : Int) else c.st) = if (lf : Int) = (n : Int) then 2 else 1 := by
            rw [h1]
            by_cases hc : lf = n
            · rw [if_pos (by omega), if_pos (by omega)]
            · rw [if_neg (by omega), if_neg (by omega)]
          have hle : ((lf - n : Nat) : Int) = (lf : Int) - (n : Int) := by omega
          have hinv : Inv B ⟨if (lf : Int) = (n : Int) then 2 else 1, (lf : Int) - (n : Int), c.line, c.many + (n : Int)⟩ := by
            by_cases hc : (lf : Int) = (n : Int)
            · rw [if_pos hc]
              exact inv_of (by decide) (by decide) (by omega) (by omega) (by omega) (by omega) hv.line (fun _ => hv.none (.inl h1))
            · rw [if_neg hc]
              exact inv_of (by decide) (by decide) (by omega) (by omega) (by omega) (by omega) hv.line (fun _ => hv.none (.inl h1))
          obtain ⟨r, r1, r2, r3⟩ := ih (i + n) k ⟨if (lf : Int) = (n : Int) then 2 else 1, (lf : Int) - (n : Int), c.line, c.many + (n : Int)⟩ (body ++ ⟨((T.data.toList.drop i).take n).toArray⟩) (by omega) (by omega) hinv (by rw [ByteArray.size_append, hexs]; omega) (by omega)
          have hft := feedL_take ((T.data.toList.drop i).take n) (T.data.toList.drop (i + n)) (lf : Int) c.many c.line (by rw [hll]; omega) (fun e => by rw [e] at hll; simp at hll; omega)
          rw [← hsp, hll] at hft
          have hc : c = ⟨1, (lf : Int), c.line, c.many⟩ := by rw [← h1, ← hlf]
          have hF : feedL (T.data.toList.drop i) c = feedL (T.data.toList.drop i) ⟨1, (lf : Int), c.line, c.many⟩ := by rw [← hc]
          rw [hF, hft]
          refine ⟨r, ?_, r2, fun h => ?_⟩
          · rw [chunk_Feed.l0, if_pos hlt, if_neg h4, if_pos hm, if_pos h1, if_pos (by omega), hlf, Int.toNat_natCast, ← hn, hex, hst, hle]
            exact r1
          · rw [r3 h]
            unfold feedR
            dsimp only
            rw [app_two]
            congr 6
            omega
        · obtain ⟨e, s', l', li, e1, e2⟩ := one_total B hB c hv h1 h4 (T.data.toList.getD i 0)
          have e1' : chunk_one.f k c.st c.left c.line c.many (T.data.toList.getD i 0) = some (e, s', l', li) := at_rounds (chunk_one.mono _ _ _ _ _) (by omega) e1
          have hd1 : T.data.toList.drop i = T.data.toList.getD i 0 :: T.data.toList.drop (i + 1) := by
            have hlt' : i < T.data.toList.length := by rw [size_data]; exact hlt
            rw [List.drop_eq_getElem_cons hlt', List.getD_eq_getElem?_getD, List.getElem?_eq_getElem hlt', Option.getD_some]
          have hsb : stepB c (T.data.toList.getD i 0) = (e, ⟨s', l', li, c.many⟩) := by
            unfold stepB
            rw [if_neg h1, e1]
          by_cases he : e = 0
          · obtain ⟨r, r1, r2, r3⟩ := ih (i + 1) k ⟨s', l', li, c.many⟩ body (by omega) (by omega) (e2 he) (by omega) (by omega)
            refine ⟨r, ?_, ?_, fun h => ?_⟩
            · rw [chunk_Feed.l0, if_pos hlt, if_neg h4, if_pos hm, if_neg h1, e1', Option.bind_some, if_pos he]
              exact r1
            · rw [hd1, feedL, if_neg h4, hsb, if_pos he]
              exact r2
            · rw [r3 h, hd1, feedL, if_neg h4, hsb, if_pos he, if_neg h1]
              unfold feedR
              dsimp only
              rw [List.nil_append]
              congr 6
              omega
          · refine ⟨(e, c.st, c.left, c.line, c.many, i, body), ?_, ?_, fun h => absurd h he⟩
            · rw [chunk_Feed.l0, if_pos hlt, if_neg h4, if_pos hm, if_neg h1, e1', Option.bind_some, if_neg he]
            · rw [hd1, feedL, if_neg h4, hsb, if_neg he]
    · rw [chunk_Feed.l0, if_neg hlt, List.drop_of_length_le (by rw [size_data]; omega)]
      refine ⟨_, rfl, rfl, fun _ => ?_⟩
      unfold feedR
      rw [feedL, app_nil]
      rfl
end Go.Proofs.YthemlbefkdmegaaDoor.P
namespace Go.Proofs.YthemlbefkdmegaaDoor.P
open Go.RowKit Go.Proofs.YthemlbefkdmegaaDoorW.PrintWords Go.Proofs.YthemlbefkdmegaaDoorW.PrintLast Go.Proofs.YthemlbefkdmegaaDoorW.PrintMore
theorem feedL_inv {B : Int} (hB : 4000 ≤ B) : ∀ (l : List UInt8) (c : Ck), Inv B c → (feedL l c).1 = 0 → Inv B (feedL l c).2.1 ∧ (feedL l c).2.2.1 ≤ l.length ∧ ((feedL l c).2.2.1 < l.length → (feedL l c).2.1.st = 4) ∧ (feedL l c).2.2.2.length ≤ l.length ∧ (l ≠ [] → c.st ≠ 4 → 1 ≤ (feedL l c).2.2.1)
  | [], c, h, h0 => ⟨h, Nat.le_refl _, fun h => absurd h (by simp [feedL]), Nat.le_refl _, fun h => absurd rfl h⟩
  | b :: l, c, h, h0 => by
    rw [feedL] at h0 ⊢
    by_cases h4 : c.st = 4
    · rw [if_pos h4] at h0 ⊢
      exact ⟨h, Nat.zero_le _, fun _ => h4, Nat.zero_le _, fun _ h => absurd h4 h⟩
    · rw [if_neg h4] at h0 ⊢
      by_cases he : (stepB c b).1 = 0
      · rw [if_pos he] at h0 ⊢
        obtain ⟨a1, a2, a3, a4, _⟩ := feedL_inv hB l (stepB c b).2 (step_inv hB h h4 b he) h0
        refine ⟨a1, ?_, fun hl => a3 ?_, ?_, fun _ _ => ?_⟩
        · show _ + 1 ≤ _
          rw [List.length_cons]; omega
        · have hl' : (feedL l (stepB c b).2).2.2.1 + 1 < (b :: l).length := hl
          rw [List.length_cons] at hl'; omega
        · show ((if c.st = 1 then [b] else []) ++ _).length ≤ _
          rw [List.length_append, List.length_cons]
          have : (if c.st = 1 then [b] else ([] : List UInt8)).length ≤ 1 := by split <;> simp
          omega
        · show 1 ≤ _ + 1
          omega
      · rw [if_neg he] at h0
        exact absurd h0 he
theorem feedL_err : ∀ (l r : List UInt8) (c : Ck), (feedL l c).1 ≠ 0 → (feedL (l ++ r) c).1 = (feedL l c).1
  | [], r, c, h => absurd rfl h
  | b :: l, r, c, h => by
    rw [List.cons_append]
    rw [feedL] at h ⊢
    rw [feedL]
    by_cases h4 : c.st = 4
    · rw [if_pos h4] at h; exact absurd rfl h
    · rw [if_neg h4] at h ⊢
      rw [if_neg h4]
      by_cases he : (stepB c b).1 = 0
      · rw [if_pos he] at h ⊢
        rw [if_pos he]
        exact feedL_err l r _ h
      · rw [if_neg he, if_neg he]
theorem feedL_app : ∀ (l r : List UInt8) (c : Ck), (feedL l c).1 = 0 → feedL (l ++ r) c = ((feedL (r.drop 0 |> fun r => if (feedL l c).2.2.1 = l.length then r else []) (feedL l c).2.1).1, (feedL (if (feedL l c).2.2.1 = l.length then r else []) (feedL l c).2.1).2.1, (feedL l c).2.2.1 + (feedL (if (feedL l c).2.2.1 = l.length then r else []) (feedL l c).2.1).2.2.1, (feedL l c).2.2.2 ++ (feedL (if (feedL l c).2.2.1 = l.length then r else []) (feedL l c).2.1).2.2.2)
  | [], r, c, h => by
    show feedL r c = _
    have e : (feedL [] c).2.2.1 = ([] : List UInt8).length := rfl
    simp only [List.drop_zero, e, if_true]
    show feedL r c = ((feedL r c).1, (feedL r c).2.1, 0 + (feedL r c).2.2.1, [] ++ (feedL r c).2.2.2)
    rw [Nat.zero_add, List.nil_append]
  | b :: l, r, c, h => by
    rw [List.cons_append, feedL]
    rw [feedL] at h
    by_cases h4 : c.st = 4
    · rw [if_pos h4]
      have e : feedL (b :: l) c = (0, c, 0, []) := feedL_four _ _ h4
      rw [e]
      simp only [List.drop_zero, List.length_cons]
      rw [if_neg (by omega)]
      rfl
    · rw [if_neg h4] at h ⊢
      by_cases he : (stepB c b).1 = 0
      · rw [if_pos he] at h ⊢
        have e : feedL (b :: l) c = ((feedL l (stepB c b).2).1, (feedL l (stepB c b).2).2.1, (feedL l (stepB c b).2).2.2.1 + 1, (if c.st = 1 then [b] else []) ++ (feedL l (stepB c b).2).2.2.2) := by rw [feedL, if_neg h4, if_pos he]
        have ih := feedL_app l r (stepB c b).2 h
        simp only [List.drop_zero] at ih ⊢
        rw [ih, e]
        dsimp only
        have hc : ((feedL l (stepB c b).2).2.2.1 + 1 = (b :: l).length) = ((feedL l (stepB c b).2).2.2.1 = l.length) := by rw [List.length_cons]; simp
        simp only [hc]
        rw [List.append_assoc]
        congr 3
        omega
      · rw [if_neg he] at h
        exact absurd h he
theorem right_inv {c : Ck} (h : Inv 4000 c) (k : Nat) (hk : 10 ≤ k) : chunk_Right.f k c.st c.left c.line c.many = some true := by
  obtain ⟨k, rfl⟩ : ∃ j, k = j + 2 := ⟨k - 2, by omega⟩
  have h1 := h.s0
  have h2 := h.s4
  have h3 := h.l0
  have h4 := h.m0
  have h5 := h.sum
  have h6 := h.one
  have h7 := h.line
  have h8 := h.none
  have hj : ∀ x : Bool, (x = false → c.line = ⟨#[]⟩) → chunk_Right.j0 (k + 2) x c.st c.left c.line c.many = some true := fun x hx => by
    rw [chunk_Right.j0, if_neg (by omega), if_neg (by omega), if_neg (by omega), if_neg (by omega), if_neg (by omega), if_neg (by omega), decide_eq_false (by omega), chunk_Right.j1, if_neg (by decide)]
    have he : ((c.st == 1) == decide (c.left > 0)) = true := by
      by_cases hc : c.st = 1
      · rw [beq_iff_eq, decide_eq_true (h6.1 hc), beq_iff_eq]; exact hc
      · rw [beq_iff_eq, decide_eq_false (fun e => hc (h6.2 e)), beq_eq_false_iff_ne]; exact hc
    rw [if_pos he]
    cases x with
    | true => rfl
    | false =>
      rw [if_neg (by decide), hx rfl, empty_list]
      rfl
  unfold chunk_Right.f
  by_cases hc : c.st = 1
  · rw [if_pos hc]
    exact hj false (fun _ => h8 (.inl hc))
  · rw [if_neg hc]
    refine hj _ (fun e => h8 (.inr ?_))
    simpa using e
/-- chunk.Feed at a state that is come to. -/
theorem feed_f {c : Ck} (h : Inv 4000 c) (T : ByteArray) (hT : T.size ≤ 1000000) (k : Nat) (hk : T.size + 4100 ≤ k) :
    chunk_Feed.f k c.st c.left c.line c.many T = some (if (feedL T.data.toList c).1 = 0 then ((feedL T.data.toList c).2.1.st, (feedL T.data.toList c).2.1.left, (feedL T.data.toList c).2.1.line, (feedL T.data.toList c).2.1.many, ((feedL T.data.toList c).2.2.1 : Int), ⟨(feedL T.data.toList c).2.2.2.toArray⟩, 0) else (c.st, c.left, c.line, c.many, 0, ⟨#[]⟩, (feedL T.data.toList c).1)) := by
  obtain ⟨r, r1, r2, r3⟩ := feed_eq 4000 (by decide) (by decide) T hT T.size 0 k c ⟨#[]⟩ (by omega) (by omega) h (by show 0 + _ ≤ _; omega) (by omega)
  rw [List.drop_zero] at r2 r3
  unfold chunk_Feed.f
  rw [right_inv h k (by omega), Option.bind_some, if_pos rfl, if_pos (by omega), r1, Option.bind_some]
  by_cases h0 : r.1 = 0
  · rw [if_pos h0, if_pos (by rw [← r2]; exact h0), r3 h0]
    unfold feedR
    dsimp only
    have e : (⟨#[]⟩ : ByteArray) ++ (⟨(feedL T.data.toList c).2.2.2.toArray⟩ : ByteArray) = ⟨(feedL T.data.toList c).2.2.2.toArray⟩ := H.ba_ext (by rw [ByteArray.data_append]; simp)
    rw [e, Nat.zero_add]
  · rw [if_neg h0, if_neg (by rw [← r2]; exact h0), r2]
end Go.Proofs.YthemlbefkdmegaaDoor.P
namespace Go.Proofs.YthemlbefkdmegaaDoor.P
open Go.RowKit Go.Proofs.YthemlbefkdmegaaDoorW.PrintWords Go.Proofs.YthemlbefkdmegaaDoorW.PrintLast Go.Proofs.YthemlbefkdmegaaDoorW.PrintMore
theorem u8_in {n : Int} (h : (Lit.int .u8 n).wf = true) : 0 ≤ n ∧ n ≤ 255 := by
  unfold Lit.wf at h
  simp [IntKind.min, IntKind.max, IntKind.signed, IntKind.bits] at h
  omega
/-! ### bytes by numbers -/
def ptab : List ByteArray := [(⟨#[51]⟩ : ByteArray), (⟨#[13, 10]⟩ : ByteArray), (⟨#[97, 98, 99]⟩ : ByteArray), (⟨#[48]⟩ : ByteArray), (⟨#[65]⟩ : ByteArray), (⟨#[59, 120, 61, 121]⟩ : ByteArray), (⟨#[13]⟩ : ByteArray), (⟨#[10]⟩ : ByteArray), (⟨#[97, 58, 32, 98]⟩ : ByteArray), (⟨#[102, 102, 102]⟩ : ByteArray), (⟨#[49, 48, 48, 48]⟩ : ByteArray), (⟨#[32]⟩ : ByteArray), (⟨#[9, 50]⟩ : ByteArray), (⟨#[49, 13, 10, 122, 13, 10]⟩ : ByteArray), (⟨#[48, 13, 10, 13, 10]⟩ : ByteArray), (⟨#[103]⟩ : ByteArray), (⟨#[102, 102, 102, 102, 102, 102, 102, 102, 102, 102, 102, 102, 102, 102, 102, 102, 102]⟩ : ByteArray), (⟨#[]⟩ : ByteArray)]
theorem ptab_small (j : Nat) (hj : j < 18) : (ptab.getD j ByteArray.empty).size ≤ 17 := by
  have a : ((List.range 18).all fun j => decide ((ptab.getD j ByteArray.empty).size ≤ 17)) = true := by kernel_rfl
  rw [List.all_eq_true] at a
  simpa using a j (List.mem_range.2 hj)
theorem Pieces_at (tab : List ByteArray) (htl : tab.length = 18) (hts : ∀ j, j < 18 → (tab.getD j ByteArray.empty).size ≤ 17) (l : List Int) (hl : ∀ x ∈ l, (Lit.int .u8 x).wf = true) (d : Nat) :
    ∀ (i k : Nat) (acc : ByteArray), 16 - i = d → i ≤ 16 → acc.size ≤ 17 * i → d + 1 ≤ k → ∃ t : ByteArray, t.size ≤ 272 ∧ lockagelaw08_Pieces.l0 k l tab acc i = some t := by
  induction d with
  | zero =>
    intro i k acc hd hi ha hk
    obtain ⟨k, rfl⟩ : ∃ j, k = j + 1 := ⟨k - 1, by omega⟩
    rw [lockagelaw08_Pieces.l0]
    by_cases h : (i : Int) < (l.length : Int)
    · rw [if_pos h, if_neg (by omega)]
      exact ⟨_, by omega, rfl⟩
    · rw [if_neg h]
      exact ⟨_, by omega, rfl⟩
  | succ d ih =>
    intro i k acc hd hi ha hk
    obtain ⟨k, rfl⟩ : ∃ j, k = j + 1 := ⟨k - 1, by omega⟩
    rw [lockagelaw08_Pieces.l0]
    by_cases h : (i : Int) < (l.length : Int)
    · have hlt : i < l.length := by omega
      have hr : rd l (i : Int) = l[i] := by simp [rd, hlt]
      have hb := u8_in (hl l[i] (List.getElem_mem _))
      obtain ⟨v, hv⟩ : ∃ v : Nat, l[i] = (v : Int) := ⟨(l[i]).toNat, by omega⟩
      obtain ⟨m, hm⟩ : ∃ m, m = v % 18 := ⟨_, rfl⟩
      have hm18 : m < 18 := by omega
      have hs := hts m hm18
      have hpl : (tab.length : Int) = 18 := by rw [htl]; rfl
      have HT := Lib.hid (show Int.tmod (v : Int) 18 = (m : Int) by rw [hm]; rfl)
      have HRD := Lib.hid (show rdOf ByteArray.empty tab (m : Int) = tab.getD m ByteArray.empty by unfold rdOf; rw [Int.toNat_natCast, List.getD_eq_getElem?_getD])
      have HW := Lib.hid (show wrap64 (rd l (i : Int)) = (v : Int) by rw [hr, hv]; unfold wrap64; omega)
      have HW2 := Lib.hid (show wrap64 ((i : Int) + 1) = ((i + 1 : Nat) : Int) by unfold wrap64; omega)
      obtain ⟨t, t1, t2⟩ := ih (i + 1) k (acc ++ tab.getD m ByteArray.empty) (by omega) (by omega) (by rw [ByteArray.size_append]; omega) (by omega)
      refine ⟨t, t1, ?_⟩
      have c1 : (i : Int) < 16 := by omega
      have c2 : (0 : Int) ≤ (i : Int) := by omega
      have c3 : (0 : Int) ≤ (m : Int) := by omega
      have c4 : (m : Int) < 18 := by omega
      have c5 : acc.size + (tab.getD m ByteArray.empty).size ≤ 9223372036854775807 := by omega
      rw [if_pos h, if_pos c1, if_pos c2, hpl, if_neg (by decide), HW.out, HT.out, if_pos c3, if_pos c4, HRD.out, if_pos c5, HW2.out]
      exact t2
    · rw [if_neg h]
      exact ⟨_, by omega, rfl⟩
theorem Pieces_ev (l : List Int) (hl : ∀ x ∈ l, (Lit.int .u8 x).wf = true) : ∃ t : ByteArray, t.size ≤ 272 ∧ ∀ k, 17 ≤ k → lockagelaw08_Pieces.f k l = some t := by
  obtain ⟨t, t1, t2⟩ := Pieces_at ptab rfl ptab_small l hl 16 0 17 ⟨#[]⟩ rfl (by decide) (by decide) (by decide)
  exact ⟨t, t1, fun k hk => at_rounds (lockagelaw08_Pieces.mono _) hk t2⟩
theorem mn_nat (a b : Nat) : mn (a : Int) (b : Int) = ((min a b : Nat) : Int) := by unfold mn; omega
end Go.Proofs.YthemlbefkdmegaaDoor.P
namespace Go.Proofs.YthemlbefkdmegaaDoor.P
open Go.RowKit Go.Proofs.YthemlbefkdmegaaDoorW.PrintWords Go.Proofs.YthemlbefkdmegaaDoorW.PrintLast Go.Proofs.YthemlbefkdmegaaDoorW.PrintMore
/-! ### sizes -/
theorem RSize_l0 (x : ByteArray) (hx : x.size ≤ 9223372036854775806) (d : Nat) : ∀ (i k : Nat), x.size - i = d → i ≤ x.size → d + 5 ≤ k →
    ∃ k', k ≤ k' + d + 1 ∧ lockageref08_size.l0 k x i = lockageref08_size.j1 k' x ((i + upto 59 (x.data.toList.drop i) : Nat) : Int) := by
  have hsz := size_data x
  induction d with
  | zero =>
    intro i k hd hi hk
    obtain ⟨k, rfl⟩ : ∃ j, k = j + 1 := ⟨k - 1, by omega⟩
    refine ⟨k, by omega, ?_⟩
    rw [lockageref08_size.l0, if_neg (by omega), List.drop_of_length_le (by omega), upto_nil, Nat.add_zero]
  | succ d ih =>
    intro i k hd hi hk
    obtain ⟨k, rfl⟩ : ∃ j, k = j + 1 := ⟨k - 1, by omega⟩
    have hlt : i < x.size := by omega
    have hl : i < x.data.toList.length := by omega
    rw [lockageref08_size.l0, if_pos (by omega), if_pos (by omega), bt_low hlt, List.drop_eq_getElem_cons hl]
    by_cases hc : x.data.toList[i] = 59
    · rw [if_pos (by rw [hc]; rfl)]
      refine ⟨k, by omega, ?_⟩
      rw [hc, upto_hit, Nat.add_zero]
    · have hn : ¬ ((x.data.toList[i].toNat : Int) = 59) := fun e => hc (by
        have e1 : x.data.toList[i].toNat = 59 := by omega
        have := byte_back x.data.toList[i]
        rw [e1] at this
        exact this.symm)
      rw [if_neg hn, wrap_nx i (by omega)]
      obtain ⟨k', h1, h2⟩ := ih (i + 1) k (by omega) (by omega) (by omega)
      refine ⟨k', by omega, ?_⟩
      rw [h2, upto_miss hc]
      congr 2
      omega
def sizeL (l : List UInt8) : Int × Int := parseX (Sp.trim (Sp.cutL 59 l))
theorem RSize_ev (x : ByteArray) (hx : x.size ≤ 1000000) (k : Nat) (hk : 6 * x.size + 200 ≤ k) : lockageref08_size.f k x = some (if (sizeL x.data.toList).2 = 1 then (0, 23) else if (sizeL x.data.toList).2 = 0 then ((sizeL x.data.toList).1, 0) else (0, 2)) := by
  have hsz := size_data x
  unfold lockageref08_size.f
  obtain ⟨k', h1, h2⟩ := RSize_l0 x (by omega) x.size 0 k (Nat.sub_zero _) (Nat.zero_le _) (by omega)
  rw [show lockageref08_size.l0 k x 0 = _ from h2, List.drop_zero, Nat.zero_add]
  obtain ⟨k', rfl⟩ : ∃ j, k' = j + 1 := ⟨k' - 1, by omega⟩
  have hle : upto 59 x.data.toList ≤ x.size := by rw [← hsz]; exact upto_le _ _
  have s1 := Sp.cutL_length 59 x.data.toList
  have s2 := Sp.trim_length (Sp.cutL 59 x.data.toList)
  rw [lockageref08_size.j1, if_pos (by omega), if_pos (by omega), Int.toNat_natCast, ext_to, cutL_upto, RefTrim_ev _ (by rw [mk_size]; omega) _ (by rw [mk_size]; omega), Option.bind_some]
  rw [RefParse_evx _ (by rw [mk_size]; show (Sp.trim (Sp.cutL 59 x.data.toList)).length ≤ _; omega) _ (by rw [mk_size]; show 4 * (Sp.trim (Sp.cutL 59 x.data.toList)).length + 100 ≤ _; omega), Option.bind_some]
  show (if (sizeL x.data.toList).2 = 1 then _ else if (sizeL x.data.toList).2 = 0 then _ else _) = _
  split
  · rfl
  · split <;> rfl
theorem CSize_ev (x : ByteArray) (hx : x.size ≤ 1000) (many : Int) : chunk_size.f 4000 many x = some (if (sizeL x.data.toList).2 = 1 then (23, 0) else if (sizeL x.data.toList).2 = 0 then (if (sizeL x.data.toList).1 > 4000 - many then (2, 0) else (0, (sizeL x.data.toList).1)) else (2, 0)) := by
  have h1 := Sp.cutL_length 59 x.data.toList
  have h3 := Sp.trim_length (Sp.cutL 59 x.data.toList)
  rw [size_data] at h1
  unfold chunk_size.f strings_Cut.f
  rw [if_pos (by omega), Option.bind_some]
  dsimp only
  rw [trim_f (by rw [mk_size]; omega), Option.bind_some, Parse_evx _ (by rw [mk_size]; show (Sp.trim (Sp.cutL 59 x.data.toList)).length ≤ _; omega) _ (by rw [mk_size]; show 2 * (Sp.trim (Sp.cutL 59 x.data.toList)).length + 40 ≤ _; omega), Option.bind_some]
  show (if (sizeL x.data.toList).2 = 1 then some ((23 : Int), (0 : Int)) else if (sizeL x.data.toList).2 = 0 then (if (sizeL x.data.toList).1 > 4000 - many then some (2, 0) else some (0, (sizeL x.data.toList).1)) else some (2, 0)) = _
  by_cases h1 : (sizeL x.data.toList).2 = 1
  · rw [if_pos h1, if_pos h1]
  · by_cases h2 : (sizeL x.data.toList).2 = 0
    · rw [if_neg h1, if_pos h2, if_neg h1, if_pos h2]
      by_cases h3 : (sizeL x.data.toList).1 > 4000 - many
      · rw [if_pos h3, if_pos h3]
      · rw [if_neg h3, if_neg h3]
    · rw [if_neg h1, if_neg h2, if_neg h1, if_neg h2]
theorem sizeL_ge (l : List UInt8) : 0 ≤ (sizeL l).1 := parseX_ge _
/-! ### lines -/
theorem line_eq (many : Int) (hm : 0 ≤ many ∧ many ≤ 100000) (s : ByteArray) (hs : s.size ≤ 1000) (st : Int) (h0 : st = 0 ∨ st = 2 ∨ st = 3) (L : ByteArray) (k : Nat) (hk : 10000 ≤ k) :
    ∃ e s' l', chunk_line.f 4000 st 0 many s = some (e, s', l') ∧ ∃ x0 x1 x2 x3, lockageref08_line.f k st 0 L many s = some (x0, x1, x2, x3, e) ∧ (e = 0 → x0 = s' ∧ x1 = l' ∧ x2 = ⟨#[]⟩ ∧ x3 = many) := by
  obtain ⟨k, rfl⟩ : ∃ j, k = j + 2 := ⟨k - 2, by omega⟩
  rcases h0 with rfl | rfl | rfl
  · have hw : wrap64 (4000 - many) = 4000 - many := by unfold wrap64; omega
    have hg := sizeL_ge s.data.toList
    unfold chunk_line.f lockageref08_line.f
    rw [if_pos rfl, if_pos rfl, CSize_ev s hs, RSize_ev s (by omega) _ (by omega), Option.bind_some, Option.bind_some, hw]
    generalize sizeL s.data.toList = p at hg ⊢
    by_cases h1 : p.2 = 1
    · rw [if_pos h1, if_pos h1]
      refine ⟨_, _, _, rfl, ?_⟩
      dsimp only
      rw [if_neg (by decide), lockageref08_line.j0, if_neg (by decide), lockageref08_line.j1, if_neg (by decide)]
      exact ⟨_, _, _, _, rfl, fun h => absurd h (by decide)⟩
    · by_cases h2 : p.2 = 0
      · rw [if_neg h1, if_pos h2, if_neg h1, if_pos h2]
        by_cases h3 : p.1 > 4000 - many
        · rw [if_pos h3]
          refine ⟨_, _, _, rfl, ?_⟩
          dsimp only
          rw [if_pos rfl, lockageref08_line.j0, if_pos (decide_eq_true h3), lockageref08_line.j1, if_neg (by decide)]
          exact ⟨_, _, _, _, rfl, fun h => absurd h (by decide)⟩
        · rw [if_neg h3]
          refine ⟨_, _, _, rfl, ?_⟩
          dsimp only
          rw [if_pos rfl, lockageref08_line.j0, if_neg (by simpa using h3), lockageref08_line.j1, if_pos rfl]
          by_cases h4 : p.1 = 0
          · rw [if_pos h4, if_pos h4, if_pos h4]
            exact ⟨_, _, _, _, rfl, fun _ => ⟨rfl, h4, rfl, rfl⟩⟩
          · rw [if_neg h4, if_neg h4, if_neg h4]
            exact ⟨_, _, _, _, rfl, fun _ => ⟨rfl, rfl, rfl, rfl⟩⟩
      · rw [if_neg h1, if_neg h2, if_neg h1, if_neg h2]
        refine ⟨_, _, _, rfl, ?_⟩
        dsimp only
        rw [if_neg (by decide), lockageref08_line.j0, if_neg (by decide), lockageref08_line.j1, if_neg (by decide)]
        exact ⟨_, _, _, _, rfl, fun h => absurd h (by decide)⟩
  · unfold chunk_line.f lockageref08_line.f
    have h20 : ¬ ((2 : Int) = 0) := by decide
    rw [if_neg h20, if_pos (show (2 : Int) = 2 from rfl), if_neg h20, if_pos (show (2 : Int) = 2 from rfl)]
    by_cases h : s.toList = []
    · rw [if_pos h, if_pos h]
      exact ⟨_, _, _, rfl, _, _, _, _, rfl, fun _ => ⟨rfl, rfl, rfl, rfl⟩⟩
    · rw [if_neg h, if_neg h]
      exact ⟨_, _, _, rfl, _, _, _, _, rfl, fun h => absurd h (by decide)⟩
  · unfold chunk_line.f lockageref08_line.f
    have h30 : ¬ ((3 : Int) = 0) := by decide
    have h32 : ¬ ((3 : Int) = 2) := by decide
    rw [if_neg h30, if_neg h32, if_pos (show (3 : Int) = 3 from rfl), if_neg h30, if_neg h32]
    by_cases h : s.toList = []
    · rw [if_pos h, if_pos h]
      exact ⟨_, _, _, rfl, _, _, _, _, rfl, fun _ => ⟨rfl, rfl, rfl, rfl⟩⟩
    · rw [if_neg h, if_neg h, FParse_ev s (by omega) _ (by decide), RefFParse_ev s (by omega) _ (by omega), Option.bind_some, Option.bind_some]
      by_cases h2 : (fieldP s.data.toList).2.2 = 0
      · rw [if_pos h2, if_pos h2]
        exact ⟨_, _, _, rfl, _, _, _, _, rfl, fun _ => ⟨rfl, rfl, rfl, rfl⟩⟩
      · rw [if_neg h2, if_neg h2]
        exact ⟨_, _, _, rfl, _, _, _, _, rfl, fun h => absurd h (by decide)⟩
/-! ### the end of a line -/
theorem endB_iff (L : ByteArray) : endB L = true ↔ L.data.toList.drop (L.size - 2) = [13, 10] := by
  unfold endB Lib.hasSuffix
  rw [List.isSuffixOf_iff_suffix, List.suffix_iff_eq_drop, size_data]
  exact ⟨fun h => h.symm, fun h => h.symm⟩
theorem endB_long {L : ByteArray} (h : endB L = true) : 2 ≤ L.size := by
  have := congrArg List.length ((endB_iff L).1 h)
  rw [List.length_drop, size_data] at this
  simp only [List.length_cons, List.length_nil] at this
  omega
theorem endB_ext (L : ByteArray) : ((L.extract (L.size - 2) L.size).toList == ([13, 10] : List UInt8)) = endB L := by
  have e : (L.extract (L.size - 2) L.size).toList = L.data.toList.drop (L.size - 2) := by rw [toList_data, ext_from]
  rw [e]
  cases h : endB L with
  | true => rw [(endB_iff L).1 h]; rfl
  | false =>
    rw [beq_eq_false_iff_ne]
    intro h2
    rw [(endB_iff L).2 h2] at h
    cases h
theorem cutB_ext {L : ByteArray} (h : endB L = true) : cutB L = L.extract 0 (L.size - 2) := by
  unfold cutB Lib.trimSuffix
  have : Lib.hasSuffix L.data.toList [13, 10] = true := h
  rw [if_pos this, ext_to, size_data]
  rfl
theorem byte_ext (T : ByteArray) (i : Nat) (h : i < T.size) : T.extract i (i + 1) = byteB (T.data.toList.getD i 0) := H.ba_ext (by
  have h' : i < T.data.toList.length := by rw [size_data]; exact h
  rw [ByteArray.data_extract, Array.toList_extract]
  simp only [List.extract_eq_take_drop]
  rw [List.drop_eq_getElem_cons h', show i + 1 - i = 1 by omega, List.take_succ_cons, List.take_zero, List.getD_eq_getElem?_getD, List.getElem?_eq_getElem h', Option.getD_some]
  rfl)
/-! ### the whole -/
def refR (a0 a1 : Int) (a2 : ByteArray) (a3 : Int) (i : Nat) (body : ByteArray) (q : Int × Ck × Nat × List UInt8) : Int × Int × ByteArray × Int × Int × ByteArray × Int :=
  if q.1 = 0 then (q.2.1.st, q.2.1.left, q.2.1.line, q.2.1.many, ((i + q.2.2.1 : Nat) : Int), body ++ ⟨q.2.2.2.toArray⟩, 0) else (a0, a1, a2, a3, 0, ⟨#[]⟩, q.1)
theorem ref_stop (k : Nat) (T : ByteArray) (i : Nat) (c : Ck) (body : ByteArray) (a0 a1 : Int) (a2 : ByteArray) (a3 : Int) (h : T.size ≤ i ∨ c.st = 4) :
    lockageref08_Feed.l0 (k + 2) T body (i : Int) a0 a1 a2 a3 c.st c.left c.line c.many = some (refR a0 a1 a2 a3 i body (feedL (T.data.toList.drop i) c)) := by
  have e : feedL (T.data.toList.drop i) c = (0, c, 0, []) := by
    rcases h with h | h
    · rw [List.drop_of_length_le (by rw [size_data]; exact h)]; rfl
    · exact feedL_four _ _ h
  have e2 : some (c.st, c.left, c.line, c.many, (i : Int), body, (0 : Int)) = some (refR a0 a1 a2 a3 i body (feedL (T.data.toList.drop i) c)) := by
    rw [e]
    unfold refR
    rw [if_pos rfl, app_nil]
    rfl
  rw [← e2, lockageref08_Feed.l0]
  by_cases hi : (i : Int) < (T.size : Int)
  · have h4 : (c.st != 4) = false := by
      have : c.st = 4 := by omega
      rw [this]; rfl
    rw [if_pos hi, h4, lockageref08_Feed.j1, if_neg (by decide)]
  · rw [if_neg hi, lockageref08_Feed.j1, if_neg (by decide)]
theorem ref_eq (B : Int) (hB : 4000 ≤ B) (hB2 : B ≤ 100000) (T : ByteArray) (hT : T.size ≤ 1000000) (a0 a1 : Int) (a2 : ByteArray) (a3 : Int) (d : Nat) : ∀ (i k : Nat) (c : Ck) (body : ByteArray), T.size - i ≤ d → i ≤ T.size → Inv B c → body.size + (T.size - i) ≤ 2000000 → 20000 + 4 * d ≤ k →
    lockageref08_Feed.l0 k T body (i : Int) a0 a1 a2 a3 c.st c.left c.line c.many = some (refR a0 a1 a2 a3 i body (feedL (T.data.toList.drop i) c)) := by
  induction d with
  | zero =>
    intro i k c body hd hi hv hb hk
    obtain ⟨k, rfl⟩ : ∃ j, k = j + 2 := ⟨k - 2, by omega⟩
    exact ref_stop k T i c body a0 a1 a2 a3 (.inl (by omega))
  | succ d ih =>
    intro i k c body hd hi hv hb hk
    by_cases hend : T.size ≤ i ∨ c.st = 4
    · obtain ⟨k, rfl⟩ : ∃ j, k = j + 2 := ⟨k - 2, by omega⟩
      exact ref_stop k T i c body a0 a1 a2 a3 hend
    have hlt : i < T.size := by omega
    have h4 : c.st ≠ 4 := fun e => hend (.inr e)
    obtain ⟨k, rfl⟩ : ∃ j, k = j + 4 := ⟨k - 4, by omega⟩
    obtain ⟨b, hbd⟩ : ∃ b, b = T.data.toList.getD i 0 := ⟨_, rfl⟩
    have hd1 : T.data.toList.drop i = b :: T.data.toList.drop (i + 1) := by
      have hlt' : i < T.data.toList.length := by rw [size_data]; exact hlt
      rw [hbd, List.drop_eq_getElem_cons hlt', List.getD_eq_getElem?_getD, List.getElem?_eq_getElem hlt', Option.getD_some]
    have hx := byte_ext T i hlt
    rw [← hbd] at hx
    have hw := wrap_nx i (show i ≤ 9223372036854775806 by omega)
    have e4 : (c.st != 4) = true := bne_iff_ne.mpr h4
    have b1 : (byteB b).size = 1 := rfl
    have hm0 := hv.m0
    have hsum := hv.sum
    have hl0 := hv.l0
    have hli := hv.line
    rw [hd1, feedL, if_neg h4, lockageref08_Feed.l0, if_pos (by omega), e4, lockageref08_Feed.j1, if_pos rfl]
    have hnext : ∀ (k : Nat) (s2 l2 : Int) (n2 : ByteArray) (m2 : Int) (bd : List UInt8), 20000 + 4 * d ≤ k → stepB c b = (0, ⟨s2, l2, n2, m2⟩) → bd.length ≤ 1 → (if c.st = 1 then [b] else []) = bd →
        lockageref08_Feed.l0 k T (body ++ ⟨bd.toArray⟩) (((i + 1 : Nat) : Int)) a0 a1 a2 a3 s2 l2 n2 m2 = some (refR a0 a1 a2 a3 i body (if (stepB c b).1 = 0 then ((feedL (T.data.toList.drop (i + 1)) (stepB c b).2).1, (feedL (T.data.toList.drop (i + 1)) (stepB c b).2).2.1, (feedL (T.data.toList.drop (i + 1)) (stepB c b).2).2.2.1 + 1, (if c.st = 1 then [b] else []) ++ (feedL (T.data.toList.drop (i + 1)) (stepB c b).2).2.2.2) else ((stepB c b).1, c, 0, []))) := by
      intro k s2 l2 n2 m2 bd hk hs hbl hbd2
      have hi2 := step_inv hB hv h4 b (by rw [hs])
      rw [hs] at hi2
      have hbs : (body ++ (⟨bd.toArray⟩ : ByteArray)).size = body.size + bd.length := by rw [ByteArray.size_append, mk_size bd]
      have hi3 := ih (i + 1) k ⟨s2, l2, n2, m2⟩ (body ++ ⟨bd.toArray⟩) (by omega) (by omega) hi2 (by omega) hk
      dsimp only at hi3
      rw [hi3, hs, if_pos rfl, hbd2]
      unfold refR
      dsimp only
      split
      · rw [app_two]
        congr 6
        omega
      · rfl
    by_cases h1 : c.st = 1
    · have hpos := hv.one.1 h1
      have w1 : wrap64 (c.left - 1) = c.left - 1 := by unfold wrap64; omega
      have w2 : wrap64 (c.many + 1) = c.many + 1 := by unfold wrap64; omega
      have hst : stepB c b = (0, ⟨if c.left = 1 then 2 else 1, c.left - 1, c.line, c.many + 1⟩) := by unfold stepB; rw [if_pos h1]
      rw [if_pos h1, if_pos (by omega), hw, if_pos (by omega), if_pos (by omega), Int.toNat_natCast, Int.toNat_natCast, hx, if_pos (by omega), w1, w2]
      by_cases hc : c.left = 1
      · rw [if_pos hc] at hst
        rw [if_pos (show c.left - 1 = 0 by omega)]
        exact hnext (k + 2) _ _ _ _ [b] (by omega) hst (Nat.le_refl 1) (by rw [if_pos h1])
      · rw [if_neg hc] at hst
        have hst2 : stepB c b = (0, ⟨c.st, c.left - 1, c.line, c.many + 1⟩) := by rw [hst]; rw [h1]
        rw [if_neg (show ¬ (c.left - 1 = 0) by omega)]
        exact hnext (k + 2) _ _ _ _ [b] (by omega) hst2 (Nat.le_refl 1) (by rw [if_pos h1])
    · have hl : c.left = 0 := by
        have := hv.one
        omega
      have h0 : c.st = 0 ∨ c.st = 2 ∨ c.st = 3 := by
        have := hv.s0
        have := hv.s4
        omega
      obtain ⟨L, hL⟩ : ∃ L, L = c.line ++ byteB b := ⟨_, rfl⟩
      have hLs : L.size = c.line.size + 1 := by rw [hL, ByteArray.size_append, b1]
      have h11 : (if c.st = 1 then [b] else ([] : List UInt8)) = [] := by rw [if_neg h1]
      have hbe : body ++ (⟨([] : List UInt8).toArray⟩ : ByteArray) = body := app_nil body
      rw [if_neg h1, if_pos (by omega), hw, if_pos (by omega), if_pos (by omega), Int.toNat_natCast, Int.toNat_natCast, hx, if_pos (by omega), ← hL]
      have hstep : stepB c b = match chunk_one.f 4000 c.st c.left c.line c.many b with
          | some p => (p.1, ⟨p.2.1, p.2.2.1, p.2.2.2, c.many⟩)
          | none => (99, c) := by unfold stepB; exact if_neg h1
      have hj2 : lockageref08_Feed.j2 (k + 2) T body (((i + 1 : Nat) : Int)) (L.size : Int) (endB L) a0 a1 a2 a3 c.st c.left L c.many = some (refR a0 a1 a2 a3 i body (if (stepB c b).1 = 0 then ((feedL (T.data.toList.drop (i + 1)) (stepB c b).2).1, (feedL (T.data.toList.drop (i + 1)) (stepB c b).2).2.1, (feedL (T.data.toList.drop (i + 1)) (stepB c b).2).2.2.1 + 1, (if c.st = 1 then [b] else []) ++ (feedL (T.data.toList.drop (i + 1)) (stepB c b).2).2.2.2) else ((stepB c b).1, c, 0, []))) := by
        rw [lockageref08_Feed.j2]
        cases he : endB L with
        | true =>
          have h2 := endB_long he
          have hw2 : wrap64 ((L.size : Int) - 2) = ((L.size - 2 : Nat) : Int) := by unfold wrap64; omega
          have hcs : (cutB L).size ≤ 1000 := by have := cutB_size L; omega
          obtain ⟨e, s', l', q1, x0, x1, x2, x3, q2, q3⟩ := line_eq c.many ⟨hm0, by omega⟩ (cutB L) hcs c.st h0 L (k + 1) (by omega)
          have hone : chunk_one.f 4000 c.st c.left c.line c.many b = some (e, s', l', ⟨#[]⟩) := by
            unfold chunk_one.f
            rw [if_pos (by omega), ← hL, if_pos he, hl, q1, Option.bind_some]
          rw [hone] at hstep
          rw [if_pos rfl, hw2, if_pos (by omega), if_pos (by omega), Int.toNat_natCast, ← cutB_ext he, hl, q2, Option.bind_some]
          by_cases h0e : e = 0
          · subst h0e
            obtain ⟨rfl, rfl, rfl, rfl⟩ := q3 rfl
            have h := hnext (k + 1) _ _ _ _ [] (by omega) hstep (Nat.zero_le 1) h11
            rw [hbe] at h
            rw [if_pos rfl]
            exact h
          · rw [if_neg h0e, hstep]
            dsimp only
            rw [if_neg h0e]
            unfold refR
            rw [if_neg h0e]
        | false =>
          rw [if_neg (by decide)]
          have hone : chunk_one.f 4000 c.st c.left c.line c.many b = if (L.size : Int) > 200 then some (2, c.st, c.left, L) else some (0, c.st, c.left, L) := by
            unfold chunk_one.f
            rw [if_pos (by omega), ← hL, he, if_neg (by decide)]
          rw [hone] at hstep
          by_cases h2 : (L.size : Int) > 200
          · rw [if_pos h2]
            rw [if_pos h2] at hstep
            rw [hstep]
            rfl
          · rw [if_neg h2]
            rw [if_neg h2] at hstep
            have h := hnext (k + 1) _ _ _ _ [] (by omega) hstep (Nat.zero_le 1) h11
            rw [hbe] at h
            exact h
      by_cases h2 : (L.size : Int) ≥ 2
      · have hw2 : wrap64 ((L.size : Int) - 2) = ((L.size - 2 : Nat) : Int) := by unfold wrap64; omega
        rw [if_pos h2, hw2, if_pos (by omega), if_pos (by omega), Int.toNat_natCast, endB_ext]
        exact hj2
      · rw [if_neg h2]
        have : endB L = false := by
          cases he : endB L with
          | false => rfl
          | true => have := endB_long he; omega
        rw [this] at hj2
        exact hj2
/-! ### states that may be -/
theorem right_eq (c0 c1 : Int) (c2 : ByteArray) (c3 : Int) (k : Nat) (hk : 3 ≤ k) : ∃ b, chunk_Right.f k c0 c1 c2 c3 = some b ∧ lockageref08_Right.f c0 c1 c2 c3 = some b ∧ (b = true → Inv 8000 ⟨c0, c1, c2, c3⟩) := by
  obtain ⟨k, rfl⟩ : ∃ j, k = j + 3 := ⟨k - 3, by omega⟩
  have hf : ∃ x : Bool, (x = true ↔ c0 ≠ 1 ∧ c0 ≠ 4) ∧ chunk_Right.f (k + 3) c0 c1 c2 c3 = chunk_Right.j0 (k + 3) x c0 c1 c2 c3 := by
    unfold chunk_Right.f
    by_cases h : c0 = 1
    · rw [if_pos h]; exact ⟨false, by simp [h], rfl⟩
    · rw [if_neg h]; exact ⟨c0 != 4, by simp [h], rfl⟩
  obtain ⟨x, hx, hf⟩ := hf
  rw [hf, chunk_Right.j0]
  unfold lockageref08_Right.f
  have bad : ∀ k, chunk_Right.j1 (k + 1) x true c0 c1 c2 c3 = some false := fun k => by rw [chunk_Right.j1, if_pos rfl]
  by_cases h1 : c0 < 0
  · rw [if_pos h1, decide_eq_true h1, bad, if_neg (by omega)]
    exact ⟨false, rfl, rfl, fun h => by cases h⟩
  rw [if_neg h1, if_pos (show c0 ≥ 0 by omega)]
  by_cases h2 : c0 > 4
  · rw [if_pos h2, decide_eq_true h2, bad, if_neg (by omega)]
    exact ⟨false, rfl, rfl, fun h => by cases h⟩
  rw [if_neg h2, if_pos (show c0 ≤ 4 by omega)]
  by_cases h3 : c1 < 0
  · rw [if_pos h3, decide_eq_true h3, bad, if_neg (by omega)]
    exact ⟨false, rfl, rfl, fun h => by cases h⟩
  rw [if_neg h3, if_pos (show c1 ≥ 0 by omega)]
  by_cases h4 : c1 > 4000
  · rw [if_pos h4, decide_eq_true h4, bad, if_neg (by omega)]
    exact ⟨false, rfl, rfl, fun h => by cases h⟩
  rw [if_neg h4, if_pos (show c1 ≤ 4000 by omega)]
  by_cases h5 : c3 < 0
  · rw [if_pos h5, decide_eq_true h5, bad, if_neg (show ¬ c3 ≥ 0 by omega)]
    refine ⟨false, rfl, ?_, fun h => by cases h⟩
    split <;> rfl
  rw [if_neg h5]
  by_cases h6 : c3 > 4000
  · rw [if_pos h6, decide_eq_true h6, bad, if_neg (show ¬ c3 ≤ 4000 by omega)]
    refine ⟨false, rfl, ?_, fun h => by cases h⟩
    split
    · split <;> rfl
    · rfl
  rw [if_neg h6]
  by_cases h7 : (c2.size : Int) > 200
  · rw [decide_eq_true h7, bad, if_neg (by omega)]
    exact ⟨false, rfl, rfl, fun h => by cases h⟩
  rw [decide_eq_false h7, if_pos (show (c2.size : Int) ≤ 200 by omega), if_pos (show c3 ≥ 0 by omega), if_pos (show c3 ≤ 4000 by omega), chunk_Right.j1, if_neg (by decide)]
  by_cases h8 : ((c0 == 1) == decide (c1 > 0)) = true
  · rw [if_pos h8, if_pos h8]
    have h9 : c0 = 1 ↔ 0 < c1 := by
      have : (c0 == 1) = decide (c1 > 0) := by simpa using h8
      constructor
      · intro e
        rw [e] at this
        simpa using this.symm
      · intro e
        rw [decide_eq_true e] at this
        simpa using this
    have inv : (c0 = 1 ∨ c0 = 4 → c2 = ⟨#[]⟩) → Inv 8000 ⟨c0, c1, c2, c3⟩ := fun h => inv_of (by omega) (by omega) (by omega) (by omega) (by omega) h9 (by omega) h
    by_cases h10 : c2.toList = []
    · rw [if_pos h10, h10]
      refine ⟨true, ?_, rfl, fun _ => inv fun _ => ?_⟩
      · split <;> rfl
      · exact H.ba_ext (by rw [← toList_data, h10])
    · rw [if_neg h10]
      have e10 : (c2.toList == []) = false := by simpa using h10
      by_cases h11 : c0 = 1
      · have : x = false := by
          cases x with
          | false => rfl
          | true => exact absurd h11 (hx.1 rfl).1
        rw [if_pos h11, this, if_neg (by decide), e10]
        exact ⟨false, rfl, rfl, fun h => by cases h⟩
      · by_cases h12 : c0 = 4
        · have : x = false := by
            cases x with
            | false => rfl
            | true => exact absurd h12 (hx.1 rfl).2
          rw [if_neg h11, this, if_neg (by decide), e10, h12]
          exact ⟨false, rfl, rfl, fun h => by cases h⟩
        · have : x = true := hx.2 ⟨h11, h12⟩
          have e12 : (c0 != 4) = true := bne_iff_ne.mpr h12
          rw [if_neg h11, this, if_pos rfl, e12]
          exact ⟨true, rfl, rfl, fun _ => inv fun h => by omega⟩
  · rw [if_neg h8, if_neg h8]
    exact ⟨false, rfl, rfl, fun h => by cases h⟩
/-- chunk.Feed and the reference's Feed, at any state. -/
theorem feed_both (c0 c1 : Int) (c2 : ByteArray) (c3 : Int) (T : ByteArray) (hT : T.size ≤ 1000000) (k : Nat) (hk : 4 * T.size + 20000 ≤ k) :
    ∃ r, chunk_Feed.f k c0 c1 c2 c3 T = some r ∧ lockageref08_Feed.f k c0 c1 c2 c3 T = some r ∧ (Inv 8000 ⟨c0, c1, c2, c3⟩ → (r.2.2.2.2.2.2 = 0 → r.2.2.2.2.2.1.size ≤ T.size)) := by
  obtain ⟨b, h1, h2, h3⟩ := right_eq c0 c1 c2 c3 k (by omega)
  unfold chunk_Feed.f lockageref08_Feed.f
  rw [h1, h2, Option.bind_some, Option.bind_some]
  cases b with
  | false =>
    rw [if_neg (by decide), if_neg (by decide)]
    exact ⟨_, rfl, rfl, fun _ h => absurd (show (1 : Int) = 0 from h) (by decide)⟩
  | true =>
    have hv := h3 rfl
    obtain ⟨r, r1, r2, r3⟩ := feed_eq 8000 (by decide) (by decide) T hT T.size 0 k ⟨c0, c1, c2, c3⟩ ⟨#[]⟩ (by omega) (by omega) hv (by show 0 + _ ≤ _; omega) (by omega)
    have q := ref_eq 8000 (by decide) (by decide) T hT c0 c1 c2 c3 T.size 0 k ⟨c0, c1, c2, c3⟩ ⟨#[]⟩ (by omega) (by omega) hv (by show 0 + _ ≤ _; omega) (by omega)
    rw [List.drop_zero] at r2 r3 q
    rw [if_pos rfl, if_pos rfl, if_pos (by omega)]
    rw [show lockageref08_Feed.l0 k T ⟨#[]⟩ 0 c0 c1 c2 c3 c0 c1 c2 c3 = _ from q, show chunk_Feed.l0 k T 0 c0 c1 c2 c3 ⟨#[]⟩ = _ from r1, Option.bind_some]
    unfold refR
    by_cases h0 : r.1 = 0
    · have h0' : (feedL T.data.toList ⟨c0, c1, c2, c3⟩).1 = 0 := by rw [← r2]; exact h0
      rw [if_pos h0, if_pos h0', r3 h0]
      unfold feedR
      dsimp only
      refine ⟨_, rfl, rfl, fun _ _ => ?_⟩
      have := (feedL_inv (by decide) T.data.toList ⟨c0, c1, c2, c3⟩ hv h0').2.2.2.1
      rw [size_data] at this
      show ((⟨#[]⟩ : ByteArray) ++ _).size ≤ _
      rw [ByteArray.size_append, mk_size (feedL T.data.toList ⟨c0, c1, c2, c3⟩).2.2.2]
      show 0 + _ ≤ _
      omega
    · rw [if_neg h0, if_neg (by rw [← r2]; exact h0), r2]
      exact ⟨_, rfl, rfl, fun _ h => absurd h (by rw [← r2]; exact h0)⟩
theorem same_any (c0 c1 : Int) (c2 : ByteArray) (c3 : Int) (T : ByteArray) (hT : T.size ≤ 1000000) (k : Nat) (hk : 4 * T.size + 20000 ≤ k) : lockagelaw08_same.f k c0 c1 c2 c3 T = some true := by
  obtain ⟨b, h1, h2, _⟩ := right_eq c0 c1 c2 c3 k (by omega)
  obtain ⟨r, h3, h4, _⟩ := feed_both c0 c1 c2 c3 T hT k hk
  unfold lockagelaw08_same.f
  rw [h3, h4, Option.bind_some, Option.bind_some, if_pos (by simp), if_pos rfl, if_pos rfl, if_pos rfl, h1, h2, Option.bind_some, Option.bind_some]
  cases b <;> rfl
end Go.Proofs.YthemlbefkdmegaaDoor.P
namespace Go.Proofs.YthemlbefkdmegaaDoor.P
open Go.RowKit Go.Proofs.YthemlbefkdmegaaDoorW.PrintWords Go.Proofs.YthemlbefkdmegaaDoorW.PrintLast Go.Proofs.YthemlbefkdmegaaDoorW.PrintMore
theorem awake_t (k : Nat) (hk : 100 ≤ k) : lockagelaw08_awake.f k = some true := by unfold lockagelaw08_awake.f; rw [if_pos hk]
theorem ChunkAny_ok (c0 c1 : Int) (c2 : ByteArray) (c3 : Int) (a1 : ByteArray) (w1 : a1.size ≤ 140737488351232) : ∃ k, lockagelaw08_ChunkAny.f k c0 c1 c2 c3 a1 = some true := by
  refine ⟨30000, ?_⟩
  unfold lockagelaw08_ChunkAny.f
  rw [awake_t _ (by decide), Option.bind_some, if_pos rfl]
  by_cases h1 : (a1.size : Int) > 600
  · rw [if_pos h1]
  · rw [if_neg h1]
    by_cases h2 : (c2.size : Int) > 600
    · rw [if_pos h2]
    · rw [if_neg h2, same_any c0 c1 c2 c3 a1 (by omega) _ (by omega), Option.bind_some, if_pos rfl, same_any _ _ _ _ a1 (by omega) _ (by omega), Option.bind_some]
theorem tmod_in (n m : Int) (h : 0 ≤ n) (hm : 0 < m) : 0 ≤ Int.tmod n m ∧ Int.tmod n m < m := ⟨Int.tmod_nonneg m h, Int.tmod_lt_of_pos n hm⟩
theorem wrap_u8 {n : Int} (h : (Lit.int .u8 n).wf = true) : wrap64 n = n := by
  have := u8_in h
  unfold wrap64
  omega
theorem ChunkSmall_ok (l : List Int) (y0 : l.length * 1 ≤ 140737488351232) (hl : ∀ x ∈ l, (Lit.int .u8 x).wf = true) (m : List Int) (y1 : m.length * 1 ≤ 140737488351232) (hm : ∀ x ∈ m, (Lit.int .u8 x).wf = true) (a2 : Int) (w2 : (Lit.int .u8 a2).wf = true) : ∃ k, lockagelaw08_ChunkSmall.f k l m a2 = some true := by
  obtain ⟨S, s1, s2⟩ := Pieces_ev l hl
  obtain ⟨M, m1, m2⟩ := Pieces_ev m hm
  refine ⟨30000, ?_⟩
  have ht := tmod_in a2 40 (u8_in w2).1 (by decide)
  unfold lockagelaw08_ChunkSmall.f
  rw [s2 _ (by decide), Option.bind_some, wrap_u8 w2]
  obtain ⟨q, hq⟩ : ∃ q : Nat, Int.tmod a2 40 = (q : Int) := ⟨(Int.tmod a2 40).toNat, by omega⟩
  rw [hq, mn_nat, if_pos (by omega), if_pos (by omega)]
  obtain ⟨r, _, h4, _⟩ := feed_both 0 0 ⟨#[]⟩ 0 (S.extract 0 ((min S.size q : Nat) : Int).toNat) (by rw [ByteArray.size_extract]; omega) 30000 (by rw [ByteArray.size_extract]; omega)
  have e2 : ((⟨#[13, 10]⟩ : ByteArray) ++ M).size = 2 + M.size := by rw [ByteArray.size_append]; rfl
  rw [h4, Option.bind_some, awake_t _ (by decide), Option.bind_some, if_pos rfl, same_any _ _ _ _ S (by omega) _ (by omega), Option.bind_some, if_pos rfl, m2 _ (by decide), Option.bind_some,
    same_any _ _ _ _ M (by omega) _ (by omega), Option.bind_some, if_pos rfl, Option.bind_some, if_pos (by omega), same_any _ _ _ _ _ (by rw [e2]; omega) _ (by rw [e2]; omega), Option.bind_some]
theorem Long_j1 (k : Nat) (hk : 25000 ≤ k) (T : ByteArray) (hT : T.size ≤ 1000) (c0 c1 : Int) (c2 : ByteArray) (c3 : Int) : lockagelaw08_ChunkLong.j1 (k + 1) T c0 c1 c2 c3 = some true := by
  rw [lockagelaw08_ChunkLong.j1, awake_t _ (by omega), Option.bind_some, if_pos rfl, same_any _ _ _ _ T (by omega) _ (by omega), Option.bind_some]
theorem Long_l0 (x0 : Int) (n : Nat) (hn : wrap64 (190 + (Int.tmod (wrap64 (x0)) 20)) = (n : Int)) (hn2 : n ≤ 300) (c0 c1 : Int) (c2 : ByteArray) (c3 : Int) (d : Nat) : ∀ (i k : Nat) (x : ByteArray), n - i = d → i ≤ n → x.size ≤ 2 + i → 25000 + d + 2 ≤ k →
    lockagelaw08_ChunkLong.l0 k x0 x (i : Int) c0 c1 c2 c3 = some true := by
  induction d with
  | zero =>
    intro i k x hd hi hx hk
    obtain ⟨k, rfl⟩ : ∃ j, k = j + 2 := ⟨k - 2, by omega⟩
    have e2 : (x ++ (⟨#[13, 10]⟩ : ByteArray)).size = x.size + 2 := by rw [ByteArray.size_append]; rfl
    rw [lockagelaw08_ChunkLong.l0, hn, if_neg (by omega), if_pos (by omega)]
    exact Long_j1 k (by omega) _ (by rw [e2]; omega) _ _ _ _
  | succ d ih =>
    intro i k x hd hi hx hk
    obtain ⟨k, rfl⟩ : ∃ j, k = j + 1 := ⟨k - 1, by omega⟩
    have e2 : (x ++ (⟨#[120]⟩ : ByteArray)).size = x.size + 1 := by rw [ByteArray.size_append]; rfl
    rw [lockagelaw08_ChunkLong.l0, hn, if_pos (by omega), if_pos (by omega), wrap_nx i (by omega)]
    exact ih (i + 1) k _ (by omega) (by omega) (by rw [e2]; omega) (by omega)
def ltab : List ByteArray := [(⟨#[97]⟩ : ByteArray), (⟨#[98]⟩ : ByteArray), (⟨#[57]⟩ : ByteArray), (⟨#[49]⟩ : ByteArray), (⟨#[48]⟩ : ByteArray)]
theorem ltab_small (j : Nat) (hj : j < 5) : (ltab.getD j ByteArray.empty).size = 1 := by
  have a : ((List.range 5).all fun j => decide ((ltab.getD j ByteArray.empty).size = 1)) = true := by kernel_rfl
  rw [List.all_eq_true] at a
  simpa using a j (List.mem_range.2 hj)
theorem ChunkLong_ok (a0 : Int) (w0 : (Lit.int .u8 a0).wf = true) (a1 : Int) (w1 : (Lit.int .u8 a1).wf = true) (a2 : Int) (w2 : (Lit.int .u8 a2).wf = true) : ∃ k, lockagelaw08_ChunkLong.f k a0 a1 a2 = some true := by
  refine ⟨30000, ?_⟩
  have t20 := tmod_in a0 20 (u8_in w0).1 (by decide)
  have t5 := tmod_in a0 5 (u8_in w0).1 (by decide)
  have t3 := tmod_in a2 3 (u8_in w2).1 (by decide)
  unfold lockagelaw08_ChunkLong.f
  rw [Option.bind_some, wrap_u8 w2, if_pos t3.1, if_pos (by show _ < (3 : Int); omega)]
  by_cases h1 : Int.tmod a1 3 = 0
  · rw [if_pos h1]
    obtain ⟨n, hn⟩ : ∃ n : Nat, wrap64 (190 + (Int.tmod (wrap64 a0) 20)) = (n : Int) := ⟨(190 + Int.tmod a0 20).toNat, by rw [wrap_u8 w0]; unfold wrap64; omega⟩
    have hn2 : n ≤ 300 := by rw [wrap_u8 w0] at hn; unfold wrap64 at hn; omega
    exact Long_l0 a0 n hn hn2 _ _ _ _ n 0 30000 _ (Nat.sub_zero _) (Nat.zero_le _) (by decide) (by omega)
  · rw [if_neg h1]
    by_cases h2 : Int.tmod a1 3 = 1
    · obtain ⟨q, hq⟩ : ∃ q : Nat, Int.tmod a0 5 = (q : Int) := ⟨(Int.tmod a0 5).toNat, by omega⟩
      have hs : (rdOf ByteArray.empty ltab (q : Int)).size = 1 := by
        have := ltab_small q (by omega)
        unfold rdOf
        simpa using this
      rw [if_pos h2, Option.bind_some, wrap_u8 w0, hq, if_pos (by omega), if_pos (by show _ < (5 : Int); omega)]
      show (if 15 + (rdOf ByteArray.empty ltab (q : Int)).size ≤ 9223372036854775807 then (if ((⟨#[97, 13, 10, 48, 49, 50, 51, 52, 53, 54, 55, 56, 57, 13, 10]⟩ : ByteArray) ++ (rdOf ByteArray.empty ltab (q : Int))).size + 2 ≤ 9223372036854775807 then lockagelaw08_ChunkLong.j1 30000 (((⟨#[97, 13, 10, 48, 49, 50, 51, 52, 53, 54, 55, 56, 57, 13, 10]⟩ : ByteArray) ++ (rdOf ByteArray.empty ltab (q : Int))) ++ (⟨#[13, 10]⟩ : ByteArray)) 0 0 (⟨#[]⟩ : ByteArray) 3980 else none) else none) = _
      generalize rdOf ByteArray.empty ltab (q : Int) = y at hs ⊢
      have e1 : ((⟨#[97, 13, 10, 48, 49, 50, 51, 52, 53, 54, 55, 56, 57, 13, 10]⟩ : ByteArray) ++ y).size = 15 + y.size := by rw [ByteArray.size_append]; rfl
      have e2 : (((⟨#[97, 13, 10, 48, 49, 50, 51, 52, 53, 54, 55, 56, 57, 13, 10]⟩ : ByteArray) ++ y) ++ (⟨#[13, 10]⟩ : ByteArray)).size = 15 + y.size + 2 := by rw [ByteArray.size_append, e1]; rfl
      rw [if_pos (by omega), if_pos (by omega)]
      exact Long_j1 29999 (by decide) _ (by rw [e2]; omega) _ _ _ _
    · rw [if_neg h2]
      exact Long_j1 29999 (by decide) _ (by decide) _ _ _ _
end Go.Proofs.YthemlbefkdmegaaDoor.P
