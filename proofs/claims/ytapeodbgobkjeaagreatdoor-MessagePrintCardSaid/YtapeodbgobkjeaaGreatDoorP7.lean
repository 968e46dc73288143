/- Several parts together: Plain facts about the plain functions of header fields: small letters, trimming, names, cutting; lists of bytes alone; What the printed functions of header fields come to: names, values, what a name has; plain Lean, no program; What the reference functions of header fields come to: small letters, what a name has; plain Lean, no program; What the reference functions of header fields come to, of any texts: names, blanks, trimming, values; plain Lean, no program; What the reference's Value comes to, of any text; plain Lean, no program; Numbers of decimal digits: num.Parse and the reference's Parse come to the same, of any text; plain Lean, no program; Numbers of sixteen digits: num.Parse and the reference's Parse come to the same, of any text; plain Lean, no program; What field.Parse and the reference's Parse of a field come to, of any text; plain Lean, no program; May a head be: head.Right and the reference's Right come to the same, of any head; plain Lean, no program; What lockagelaw06.Made comes to: a right head of at most six fields, names and values from two lists; plain Lean, no program; What lockagelaw06.Made comes to where it makes an answer; plain Lean, no program; What the reference's comparing and dropping come to; plain Lean, no program; Decimal digits: num.Text and the reference's Text come to the same; plain Lean, no program. -/
import Derived.Test.YtapeodbgobkjeaaGreatDoorHZA
import Derived.Test.YtapeodbgobkjeaaGreatDoorHZB
import Derived.Test.YtapeodbgobkjeaaGreatDoorPx8
import Derived.Lib.LazyBuf
import Derived.Test.YtapeodbgobkjeaaGreatDoorPx20
import Derived.Test.YtapeodbgobkjeaaGreatDoorPxC
import Derived.Test.YtapeodbgobkjeaaGreatDoorPx11
import Derived.Test.YtapeodbgobkjeaaGreatDoorPx5
import Derived.Test.YtapeodbgobkjeaaGreatDoorPx4
import Derived.Test.YtapeodbgobkjeaaGreatDoorHZM
import Derived.Test.YtapeodbgobkjeaaGreatDoorPx0
import Derived.Test.YtapeodbgobkjeaaGreatDoorPx17
import Derived.Test.YtapeodbgobkjeaaGreatDoorPx7
import Derived.Test.YtapeodbgobkjeaaGreatDoorHZC
import Derived.Test.YtapeodbgobkjeaaGreatDoorPx6
import Derived.OpenShut
import Derived.Test.YtapeodbgobkjeaaGreatDoorPxB
import Derived.Lib.ItoaLen
set_option linter.unusedVariables false
set_option linter.unusedSimpArgs false
namespace Go.Proofs.YtapeodbgobkjeaaGreatDoor.Sp
theorem dropWhile_snoc {p : UInt8 → Bool} {c : UInt8} (hc : p c = true) : ∀ l : List UInt8, (l ++ [c]).dropWhile p = if (l.dropWhile p).isEmpty then [] else l.dropWhile p ++ [c]
 | [] => by simp [hc]
 | b :: l => by
  rw [List.cons_append, List.dropWhile_cons, List.dropWhile_cons]
  split
  ·exact dropWhile_snoc hc l
  ·simp
theorem trim_blank {c : UInt8} (hc : ([32, 9] : List UInt8).contains c = true) (l : List UInt8) : trim (c :: l) = trim l := by
 unfold trim Lib.trimS
 have e : Lib.trimRightS (c :: l) [32, 9] = if (Lib.trimRightS l [32, 9]).isEmpty then [] else c :: Lib.trimRightS l [32, 9] := by
  unfold Lib.trimRightS
  rw [List.reverse_cons, dropWhile_snoc (p := (([32, 9] : List UInt8).contains ·)) hc, List.isEmpty_reverse]
  split
  ·rfl
  ·rw [List.reverse_append]
   rfl
 rw [e]
 split
 ·rename_i h
  rw [List.isEmpty_iff] at h
  rw [h]
 ·unfold Lib.trimLeftS
  rw [List.dropWhile_cons, if_pos hc]
theorem nameC_not {c : UInt8} (h : nameC c = true) : c ≠ 58 := by rintro rfl; exact absurd h (by decide)
end Go.Proofs.YtapeodbgobkjeaaGreatDoor.Sp
namespace Go.Proofs.YtapeodbgobkjeaaGreatDoor.P
open Go.RowKit Go.Proofs.YtapeodbgobkjeaaGreatDoorW.PrintWords Go.Proofs.YtapeodbgobkjeaaGreatDoorW.PrintLast Go.Proofs.YtapeodbgobkjeaaGreatDoorW.PrintMore

theorem size_data (s : ByteArray) : s.data.toList.length = s.size := by rw [Array.length_toList]; rfl
theorem name_f {a : ByteArray} (h : a.size ≤ 9223372036854775806) : field_Name.f a = some (Sp.nameB a.data.toList) := by unfold field_Name.f; rw [if_pos h]
theorem mk_size (l : List UInt8) : (⟨l.toArray⟩ : ByteArray).size = l.length := by show l.toArray.size = _; rw [List.size_toArray]
theorem toList_data (a : ByteArray) : a.toList = a.data.toList := ByteArray.toList_eq a
end Go.Proofs.YtapeodbgobkjeaaGreatDoor.P
namespace Go.Proofs.YtapeodbgobkjeaaGreatDoor.P
open Go.RowKit Go.Proofs.YtapeodbgobkjeaaGreatDoorW.PrintWords Go.Proofs.YtapeodbgobkjeaaGreatDoorW.PrintLast Go.Proofs.YtapeodbgobkjeaaGreatDoorW.PrintMore

theorem wrap_next (n : Nat) (h : n < 8796093022208) : wrap64 ((n : Int) + 1) = ((n + 1 : Nat) : Int) := by unfold wrap64; omega
theorem bt_low {x : ByteArray} {i : Nat} (h : i < x.size) : bt x (i : Int) = ((x.data.toList[i]'(by rw [size_data]; exact h)).toNat : Int) := by
 unfold bt
 rw [dif_pos (by simpa using h)]
 rfl
theorem one_byte (c : UInt8) : (strOfNums [(c.toNat : Int)]) = ⟨#[c]⟩ := by
 have := Lib.Lz.strOfNums_map [c]
 simpa using this
theorem low_num (c : UInt8) (h : 65 ≤ (c.toNat : Int)) (h' : (c.toNat : Int) ≤ 90) : ((c.toNat : Int) + 32) % 256 = ((Sp.lowC c).toNat : Int) := by
 unfold Sp.lowC
 have h1 : (65 : UInt8) ≤ c := by rw [UInt8.le_iff_toNat_le]; simp; omega
 have h2 : c ≤ (90 : UInt8) := by rw [UInt8.le_iff_toNat_le]; simp; omega
 rw [if_pos (by simp [h1, h2]), UInt8.toNat_add]
 simp
theorem low_same (c : UInt8) (h : ¬ (65 ≤ (c.toNat : Int) ∧ (c.toNat : Int) ≤ 90)) : Sp.lowC c = c := by
 unfold Sp.lowC
 rw [if_neg]
 intro e
 simp only [Bool.and_eq_true, decide_eq_true_eq] at e
 obtain ⟨h1, h2⟩ := e
 rw [UInt8.le_iff_toNat_le] at h1 h2
 simp at h1 h2
 omega
theorem Low_at (x : ByteArray) (hx : x.size ≤ 9223372036854775806) :
  ∀ (d i k : Nat) (acc : ByteArray), x.size - i = d → i ≤ x.size → acc.size ≤ i → d + 1 ≤ k → lockageref05_Lower.l0 k x acc i = some ⟨(acc.data.toList ++ Sp.lower (x.data.toList.drop i)).toArray⟩
 | d, i, 0, acc, hd, hi, hacc, hk => by omega
 | d, i, k + 1, acc, hd, hi, hacc, hk => by
  unfold lockageref05_Lower.l0
  by_cases hlt : i < x.size
  ·rw [if_pos (by omega), if_pos (by omega)]
   have hl : i < x.data.toList.length := by rw [size_data]; exact hlt
   have ew : wrap64 ((i : Int) + 1) = ((i + 1 : Nat) : Int) := by unfold wrap64; omega
   have ed : x.data.toList.drop i = x.data.toList[i] :: x.data.toList.drop (i + 1) := List.drop_eq_getElem_cons hl
   have go : ∀ c : UInt8, Sp.lowC (x.data.toList[i]) = c → (if acc.size + (strOfNums [(c.toNat : Int)]).size ≤ 9223372036854775807 then lockageref05_Lower.l0 k x (acc ++ strOfNums [(c.toNat : Int)]) (wrap64 ((i : Int) + 1)) else none) = some ⟨(acc.data.toList ++ Sp.lower (x.data.toList.drop i)).toArray⟩ := by
    intro c hc
    have s1 : (⟨#[c]⟩ : ByteArray).size = 1 := rfl
    rw [one_byte, if_pos (by omega), ew, Low_at x hx (d - 1) (i + 1) k _ (by omega) (by omega) (by rw [ByteArray.size_append]; omega) (by omega), ed]
    have e1 : Sp.lower (x.data.toList[i] :: x.data.toList.drop (i + 1)) = c :: Sp.lower (x.data.toList.drop (i + 1)) := by rw [← hc]; rfl
    have e2 : (acc ++ (⟨#[c]⟩ : ByteArray)).data.toList = acc.data.toList ++ [c] := by rw [ByteArray.data_append]; simp
    rw [e1, e2, List.append_assoc]
    rfl
   rw [bt_low hlt]
   simp only [Option.bind_some]
   by_cases h1 : (x.data.toList[i].toNat : Int) ≥ 65
   ·rw [if_pos h1]
    by_cases h2 : (x.data.toList[i].toNat : Int) ≤ 90
    ·rw [if_pos h2, low_num _ h1 h2]
     exact go _ rfl
    ·rw [if_neg h2]
     exact go _ (low_same _ (by omega))
   ·rw [if_neg h1]
    exact go _ (low_same _ (by omega))
  ·rw [if_neg (by omega), List.drop_of_length_le (by rw [size_data]; omega)]
   have : (⟨(acc.data.toList ++ Sp.lower []).toArray⟩ : ByteArray) = acc := H.ba_ext (by simp [Sp.lower])
   rw [this]
theorem Low_ev (x : ByteArray) (hx : x.size ≤ 9223372036854775806) (k : Nat) (hk : x.size + 1 ≤ k) : lockageref05_Lower.f k x = some ⟨(Sp.lower x.data.toList).toArray⟩ := by
 unfold lockageref05_Lower.f
 have := Low_at x hx x.size 0 k ⟨#[]⟩ (by omega) (by omega) (by decide) (by omega)
 simpa using this
end Go.Proofs.YtapeodbgobkjeaaGreatDoor.P
namespace Go.Proofs.YtapeodbgobkjeaaGreatDoor.P
open Go.RowKit Go.Proofs.YtapeodbgobkjeaaGreatDoorW.PrintWords Go.Proofs.YtapeodbgobkjeaaGreatDoorW.PrintLast Go.Proofs.YtapeodbgobkjeaaGreatDoorW.PrintMore
theorem byte_all {p : Nat → Bool} (h : ((List.range 256).all p) = true) (c : UInt8) : p c.toNat = true := by
 rw [List.all_eq_true] at h
 exact h c.toNat (List.mem_range.2 c.toNat_lt)
theorem byte_back (c : UInt8) : UInt8.ofNat c.toNat = c := by simp
theorem tchar_ev (c : UInt8) (k : Nat) (hk : 40 ≤ k) : lockageref05_tchar.f k (c.toNat : Int) = some (Sp.nameC c) := by
 have h : ((List.range 256).all fun n => lockageref05_tchar.f 40 (n : Int) == some (Sp.nameC (UInt8.ofNat n))) = true := by kernel_rfl
 have := byte_all h c
 rw [byte_back] at this
 exact at_rounds (lockageref05_tchar.mono _) hk (by simpa using this)
theorem blank_ev (c : UInt8) : lockageref05_blank.f (c.toNat : Int) = some (([32, 9] : List UInt8).contains c) := by
 have h : ((List.range 256).all fun n => lockageref05_blank.f (n : Int) == some (([32, 9] : List UInt8).contains (UInt8.ofNat n))) = true := by kernel_rfl
 have := byte_all h c
 rw [byte_back] at this
 simpa using this
theorem wrap_nx (n : Nat) (h : n ≤ 9223372036854775806) : wrap64 ((n : Int) + 1) = ((n + 1 : Nat) : Int) := by unfold wrap64; omega
theorem RefName_at (x : ByteArray) (hx : x.size ≤ 9223372036854775806) (d : Nat) :
  ∀ (i k : Nat), x.size - i = d → i ≤ x.size → d + 50 ≤ k → lockageref05_Name.l0 k x i = some (Sp.allB Sp.nameC (x.data.toList.drop i) && (!x.data.toList.isEmpty && decide (x.data.toList.length ≤ 40))) := by
 have hsz := size_data x
 induction d with
 | zero =>
  intro i k hd hi hk
  obtain ⟨k, rfl⟩ : ∃ j, k = j + 1 := ⟨k - 1, by omega⟩
  unfold lockageref05_Name.l0
  rw [if_neg (by omega), List.drop_of_length_le (by omega), toList_data]
  by_cases h : x.data.toList = []
  ·rw [if_pos h, h]
   rfl
  ·rw [if_neg h]
   have e1 : x.data.toList.isEmpty = false := by simpa using h
   have e2 : decide ((x.size : Int) ≤ 40) = decide (x.data.toList.length ≤ 40) := by rw [hsz]; exact decide_eq_decide.2 (by omega)
   rw [e1, e2]
   rfl
 | succ d ih =>
  intro i k hd hi hk
  obtain ⟨k, rfl⟩ : ∃ j, k = j + 1 := ⟨k - 1, by omega⟩
  have hlt : i < x.size := by omega
  have hl : i < x.data.toList.length := by omega
  have ed : x.data.toList.drop i = x.data.toList[i] :: x.data.toList.drop (i + 1) := List.drop_eq_getElem_cons hl
  unfold lockageref05_Name.l0
  rw [if_pos (by omega), if_pos (by omega), bt_low hlt, tchar_ev _ k (by omega), ed]
  simp only [Option.bind_some]
  have ea : Sp.allB Sp.nameC (x.data.toList[i] :: x.data.toList.drop (i + 1)) = (Sp.nameC x.data.toList[i] && Sp.allB Sp.nameC (x.data.toList.drop (i + 1))) := rfl
  rw [ea]
  cases hc : Sp.nameC x.data.toList[i] with
  | true =>
   rw [if_pos rfl, wrap_nx i (by omega), ih (i + 1) k (by omega) (by omega) (by omega), Bool.true_and]
  | false =>
   rw [if_neg (by decide), Bool.false_and, Bool.false_and]
theorem RefName_ev (x : ByteArray) (hx : x.size ≤ 9223372036854775806) (k : Nat) (hk : x.size + 50 ≤ k) : lockageref05_Name.f k x = some (Sp.nameB x.data.toList) := by
 unfold lockageref05_Name.f
 have := RefName_at x hx x.size 0 k (Nat.sub_zero _) (Nat.zero_le _) hk
 rw [List.drop_zero] at this
 rw [show lockageref05_Name.l0 k x 0 = _ from this]
 unfold Sp.nameB
 rw [Bool.and_comm, Bool.and_assoc]
theorem right_snoc (l : List UInt8) (b : UInt8) : Lib.trimRightS (l ++ [b]) [32, 9] = if ([32, 9] : List UInt8).contains b = true then Lib.trimRightS l [32, 9] else l ++ [b] := by
 unfold Lib.trimRightS
 rw [List.reverse_append]
 show (List.dropWhile (([32, 9] : List UInt8).contains ·) (b :: l.reverse)).reverse = _
 rw [List.dropWhile_cons]
 split
 ·rfl
 ·rw [List.reverse_cons, List.reverse_reverse]
theorem right_cons (l : List UInt8) (b : UInt8) (hb : ([32, 9] : List UInt8).contains b = false) : Lib.trimRightS (b :: l) [32, 9] = b :: Lib.trimRightS l [32, 9] := by
 unfold Lib.trimRightS
 rw [List.reverse_cons]
 have : ∀ q : List UInt8, (q ++ [b]).dropWhile (([32, 9] : List UInt8).contains ·) = q.dropWhile (([32, 9] : List UInt8).contains ·) ++ [b] := by
  intro q
  induction q with
  | nil => rw [List.nil_append, List.dropWhile_cons, if_neg (by rw [hb]; exact Bool.false_ne_true)]; rfl
  | cons c q ih =>
   rw [List.cons_append, List.dropWhile_cons, List.dropWhile_cons]
   split
   ·exact ih
   ·rfl
 rw [this, List.reverse_append]
 rfl
theorem trim_swap : ∀ l : List UInt8, Lib.trimRightS (Lib.trimLeftS l [32, 9]) [32, 9] = Sp.trim l
 | [] => rfl
 | b :: l => by
  cases hb : ([32, 9] : List UInt8).contains b with
  | true =>
   rw [Sp.trim_blank hb, ← trim_swap l]
   unfold Lib.trimLeftS
   rw [List.dropWhile_cons, if_pos hb]
  | false =>
   unfold Sp.trim Lib.trimS
   rw [right_cons l b hb]
   unfold Lib.trimLeftS
   rw [List.dropWhile_cons, if_neg (by rw [hb]; exact Bool.false_ne_true), List.dropWhile_cons, if_neg (by rw [hb]; exact Bool.false_ne_true), right_cons l b hb]
theorem Trim_l1 (n : Nat) : ∀ (x : ByteArray) (k : Nat), x.size = n → x.size ≤ 9223372036854775806 → n + 1 ≤ k → lockageref05_Trim.l1 k x = some ⟨(Lib.trimRightS x.data.toList [32, 9]).toArray⟩ := by
 induction n with
 | zero =>
  intro x k hn hx hk
  obtain ⟨k, rfl⟩ : ∃ j, k = j + 1 := ⟨k - 1, by omega⟩
  have hsz := size_data x
  have e : x.data.toList = [] := List.eq_nil_of_length_eq_zero (by omega)
  unfold lockageref05_Trim.l1
  rw [if_neg (by omega), e]
  exact congrArg some (H.ba_ext (by rw [e]; rfl))
 | succ n ih =>
  intro x k hn hx hk
  obtain ⟨k, rfl⟩ : ∃ j, k = j + 1 := ⟨k - 1, by omega⟩
  have hsz := size_data x
  have hlt : n < x.size := by omega
  have ew : wrap64 ((x.size : Int) - 1) = (n : Int) := by rw [hn]; unfold wrap64; omega
  have hsp : x.data.toList = x.data.toList.take n ++ [x.data.toList[n]'(by omega)] := by
   have := List.take_append_getElem (l := x.data.toList) (i := n) (by omega)
   rw [this, List.take_of_length_le (by omega)]
  have hex : (x.extract 0 n).data.toList = x.data.toList.take n := by
   rw [Lib.extract_data]
   simp
  have hes : (x.extract 0 n).size = n := by rw [← size_data, hex, List.length_take]; omega
  unfold lockageref05_Trim.l1
  rw [ew, if_pos (by omega), if_pos (by omega), if_pos (by omega), bt_low hlt, blank_ev]
  simp only [Option.bind_some]
  rw [if_pos (show (n : Int) ≤ (x.size : Int) by omega), Int.toNat_natCast]
  generalize hb : x.data.toList[n]'(by omega) = b at hsp ⊢
  have er := right_snoc (x.data.toList.take n) b
  rw [← hsp] at er
  rw [er]
  split
  ·rw [ih _ k hes (by omega) (by omega), hex]
  ·exact congrArg some (H.ba_ext (by simp))
theorem Trim_l0 (n : Nat) : ∀ (x : ByteArray) (k : Nat), x.size = n → x.size ≤ 9223372036854775806 → 2 * n + 5 ≤ k → lockageref05_Trim.l0 k x = some ⟨(Sp.trim x.data.toList).toArray⟩ := by
 induction n with
 | zero =>
  intro x k hn hx hk
  obtain ⟨k, rfl⟩ : ∃ j, k = j + 2 := ⟨k - 2, by omega⟩
  have hsz := size_data x
  have e : x.data.toList = [] := List.eq_nil_of_length_eq_zero (by omega)
  unfold lockageref05_Trim.l0
  rw [if_neg (by omega)]
  unfold lockageref05_Trim.j1
  dsimp only
  rw [Trim_l1 0 x k hn hx (by omega), e]
  rfl
 | succ n ih =>
  intro x k hn hx hk
  obtain ⟨k, rfl⟩ : ∃ j, k = j + 2 := ⟨k - 2, by omega⟩
  have hsz := size_data x
  have hlt : 0 < x.size := by omega
  have hl0 : 0 < x.data.toList.length := by omega
  have hsp : x.data.toList = x.data.toList[0] :: x.data.toList.drop 1 := by
   have := List.drop_eq_getElem_cons hl0
   rw [List.drop_zero] at this
   exact this
  have hex : (x.extract 1 x.size).data.toList = x.data.toList.drop 1 := Lib.extract_to_end x 1
  have hes : (x.extract 1 x.size).size = n := by rw [← size_data, hex, List.length_drop]; omega
  have hbt := bt_low (x := x) (i := 0) hlt
  have hbl := blank_ev (x.data.toList[0])
  unfold lockageref05_Trim.l0
  rw [if_pos (by omega), if_pos (by omega)]
  rw [show bt x 0 = _ from hbt, hbl]
  simp only [Option.bind_some]
  rw [if_pos (show (1 : Int) ≤ (x.size : Int) by omega)]
  generalize x.data.toList[0] = b at hsp ⊢
  cases hb : ([32, 9] : List UInt8).contains b with
  | true =>
   rw [if_pos rfl, ih _ (k + 1) hes (by omega) (by omega), hex, hsp, Sp.trim_blank hb]
   rfl
  | false =>
   rw [if_neg (by decide)]
   unfold lockageref05_Trim.j1
   dsimp only
   rw [Trim_l1 (n + 1) x k hn hx (by omega), ← trim_swap x.data.toList]
   have : Lib.trimLeftS x.data.toList [32, 9] = x.data.toList := by
    rw [hsp]
    unfold Lib.trimLeftS
    rw [List.dropWhile_cons, if_neg (by rw [hb]; exact Bool.false_ne_true)]
   rw [this]
theorem RefTrim_ev (x : ByteArray) (hx : x.size ≤ 9223372036854775806) (k : Nat) (hk : 2 * x.size + 5 ≤ k) : lockageref05_Trim.f k x = some ⟨(Sp.trim x.data.toList).toArray⟩ := Trim_l0 x.size x k rfl hx hk
end Go.Proofs.YtapeodbgobkjeaaGreatDoor.P
namespace Go.Proofs.YtapeodbgobkjeaaGreatDoor.P
open Go.RowKit Go.Proofs.YtapeodbgobkjeaaGreatDoorW.PrintWords Go.Proofs.YtapeodbgobkjeaaGreatDoorW.PrintLast Go.Proofs.YtapeodbgobkjeaaGreatDoorW.PrintMore
def badV (c : Int) : Bool := if c = 9 then false else if c < 32 then true else decide (c > 126)
theorem badV_ev (c : UInt8) : badV (c.toNat : Int) = !Sp.valC c := by
 have h : ((List.range 256).all fun n => badV (n : Int) == !Sp.valC (UInt8.ofNat n)) = true := by kernel_rfl
 have := byte_all h c
 rw [byte_back] at this
 simpa using this
theorem RefValue_at (x : ByteArray) (hx : x.size ≤ 9223372036854775806) (d : Nat) :
  ∀ (i k : Nat), x.size - i = d → i ≤ x.size → 2 * d + 2 * x.size + 10 ≤ k → lockageref05_Value.l0 k x i = some (Sp.allB Sp.valC (x.data.toList.drop i) && (decide (x.data.toList.length ≤ 200) && (Sp.trim x.data.toList == x.data.toList))) := by
 have hsz := size_data x
 induction d with
 | zero =>
  intro i k hd hi hk
  obtain ⟨k, rfl⟩ : ∃ j, k = j + 1 := ⟨k - 1, by omega⟩
  unfold lockageref05_Value.l0
  rw [if_neg (by omega), List.drop_of_length_le (by omega)]
  by_cases h : (x.size : Int) ≤ 200
  ·rw [if_pos h, RefTrim_ev x hx k (by omega), decide_eq_true (by omega : x.data.toList.length ≤ 200)]
   simp only [Option.bind_some]
   rw [toList_data, toList_data]
   rfl
  ·rw [if_neg h, decide_eq_false (by omega : ¬ x.data.toList.length ≤ 200)]
   rfl
 | succ d ih =>
  intro i k hd hi hk
  obtain ⟨k, rfl⟩ : ∃ j, k = j + 2 := ⟨k - 2, by omega⟩
  have hlt : i < x.size := by omega
  have hl : i < x.data.toList.length := by omega
  have ed : x.data.toList.drop i = x.data.toList[i] :: x.data.toList.drop (i + 1) := List.drop_eq_getElem_cons hl
  have ea : Sp.allB Sp.valC (x.data.toList[i] :: x.data.toList.drop (i + 1)) = (Sp.valC x.data.toList[i] && Sp.allB Sp.valC (x.data.toList.drop (i + 1))) := rfl
  have hj : lockageref05_Value.l0 (k + 2) x i = lockageref05_Value.j1 (k + 1) x i (badV (x.data.toList[i].toNat : Int)) := by
   unfold lockageref05_Value.l0
   rw [if_pos (by omega), if_pos (by omega), bt_low hlt]
   unfold badV
   split
   ·rfl
   ·split <;> rfl
  rw [hj, badV_ev, ed, ea]
  unfold lockageref05_Value.j1
  cases hc : Sp.valC x.data.toList[i] with
  | true =>
   rw [if_neg (by decide), wrap_nx i (by omega), ih (i + 1) k (by omega) (by omega) (by omega), Bool.true_and]
  | false =>
   rw [if_pos (by decide), Bool.false_and, Bool.false_and]
theorem RefValue_ev (x : ByteArray) (hx : x.size ≤ 9223372036854775806) (k : Nat) (hk : 4 * x.size + 10 ≤ k) : lockageref05_Value.f k x = some (Sp.valB x.data.toList) := by
 unfold lockageref05_Value.f
 have := RefValue_at x hx x.size 0 k (Nat.sub_zero _) (Nat.zero_le _) (by omega)
 rw [List.drop_zero] at this
 rw [show lockageref05_Value.l0 k x 0 = _ from this]
 unfold Sp.valB
 rw [Bool.and_comm, Bool.and_assoc]
end Go.Proofs.YtapeodbgobkjeaaGreatDoor.P
namespace Go.Proofs.YtapeodbgobkjeaaGreatDoor.P
open Go.RowKit Go.Proofs.YtapeodbgobkjeaaGreatDoorW.PrintWords Go.Proofs.YtapeodbgobkjeaaGreatDoorW.PrintLast Go.Proofs.YtapeodbgobkjeaaGreatDoorW.PrintMore
def digV (c : UInt8) : Int := if 48 ≤ c.toNat && c.toNat ≤ 57 then (c.toNat : Int) - 48 else -1
def isDig (c : UInt8) : Bool := 48 ≤ c.toNat && c.toNat ≤ 57
def numS : List UInt8 → Int → Option Int
 | [], n => some n
 | c :: l, n => if n * 10 + digV c ≤ 9007199254740992 then numS l (n * 10 + digV c) else none
def outS : Option Int → Int × Int
 | some n => (n, 0)
 | none => (0, 3)
def parseS (l : List UInt8) : Int × Int := if l = [] then (0, 1) else if l.all isDig = true then outS (numS l 0) else (0, 1)
end Go.Proofs.YtapeodbgobkjeaaGreatDoor.P
namespace Go.Proofs.YtapeodbgobkjeaaGreatDoor.P
open Go.RowKit Go.Proofs.YtapeodbgobkjeaaGreatDoorW.PrintWords Go.Proofs.YtapeodbgobkjeaaGreatDoorW.PrintLast Go.Proofs.YtapeodbgobkjeaaGreatDoorW.PrintMore
end Go.Proofs.YtapeodbgobkjeaaGreatDoor.P
namespace Go.Proofs.YtapeodbgobkjeaaGreatDoor.P
open Go.RowKit Go.Proofs.YtapeodbgobkjeaaGreatDoorW.PrintWords Go.Proofs.YtapeodbgobkjeaaGreatDoorW.PrintLast Go.Proofs.YtapeodbgobkjeaaGreatDoorW.PrintMore
def fieldP (l : List UInt8) : ByteArray × ByteArray × Int :=
 if (Sp.cutIs 58 l && (Sp.nameB (Sp.cutL 58 l) && Sp.valB (Sp.trim (Sp.cutR 58 l)))) = true then (⟨(Sp.cutL 58 l).toArray⟩, ⟨(Sp.trim (Sp.cutR 58 l)).toArray⟩, 0) else (⟨#[]⟩, ⟨#[]⟩, 21)
def upto (c : UInt8) (l : List UInt8) : Nat := (l.takeWhile (· != c)).length
theorem upto_nil (c : UInt8) : upto c [] = 0 := rfl
theorem upto_hit (c : UInt8) (l : List UInt8) : upto c (c :: l) = 0 := by
 unfold upto
 rw [List.takeWhile_cons, if_neg (by simp)]
 rfl
theorem upto_miss {c b : UInt8} (h : b ≠ c) (l : List UInt8) : upto c (b :: l) = upto c l + 1 := by
 unfold upto
 rw [List.takeWhile_cons, if_pos (by simpa using h)]
 rfl
theorem upto_lt (c : UInt8) : ∀ l : List UInt8, upto c l < l.length ↔ c ∈ l
 | [] => by simp [upto_nil]
 | b :: l => by
  by_cases h : b = c
  ·rw [h, upto_hit, List.length_cons]
   simp
  ·rw [upto_miss h, List.length_cons, List.mem_cons]
   have := upto_lt c l
   constructor
   ·intro e; exact .inr (this.1 (by omega))
   ·rintro (e | e)
    ·exact absurd e.symm h
    ·have := this.2 e; omega
theorem take_upto (c : UInt8) : ∀ l : List UInt8, l.take (upto c l) = l.takeWhile (· != c)
 | [] => rfl
 | b :: l => by
  by_cases h : b = c
  ·rw [h, upto_hit, List.takeWhile_cons, if_neg (by simp)]; rfl
  ·rw [upto_miss h, List.takeWhile_cons, if_pos (by simpa using h), List.take_succ_cons, take_upto c l]
theorem drop_upto (c : UInt8) : ∀ l : List UInt8, l.drop (upto c l) = l.dropWhile (· != c)
 | [] => rfl
 | b :: l => by
  by_cases h : b = c
  ·rw [h, upto_hit, List.dropWhile_cons, if_neg (by simp)]; rfl
  ·rw [upto_miss h, List.dropWhile_cons, if_pos (by simpa using h), List.drop_succ_cons, drop_upto c l]
theorem cutL_upto (c : UInt8) (l : List UInt8) : l.take (upto c l) = Sp.cutL c l := by
 unfold Sp.cutL
 split
 ·exact take_upto c l
 ·rename_i h
  exact List.take_of_length_le (by have := mt (upto_lt c l).1 h; omega)
theorem cutR_upto (c : UInt8) (l : List UInt8) (h : c ∈ l) : l.drop (upto c l + 1) = Sp.cutR c l := by
 unfold Sp.cutR
 rw [if_pos h, ← drop_upto, List.drop_drop]
end Go.Proofs.YtapeodbgobkjeaaGreatDoor.P
namespace Go.Proofs.YtapeodbgobkjeaaGreatDoor.P
open Go.RowKit Go.Proofs.YtapeodbgobkjeaaGreatDoorW.PrintWords Go.Proofs.YtapeodbgobkjeaaGreatDoorW.PrintLast Go.Proofs.YtapeodbgobkjeaaGreatDoorW.PrintMore
def targC (c : UInt8) : Bool := 33 ≤ c.toNat && c.toNat ≤ 126
def okIn (first : Int) (tab : Bool) (c : Int) : Bool := if c < first then tab && c == 9 else if c > 126 then tab && c == 9 else true
theorem okIn_val (c : UInt8) : okIn 32 true (c.toNat : Int) = Sp.valC c := by
 have h : ((List.range 256).all fun n => okIn 32 true (n : Int) == Sp.valC (UInt8.ofNat n)) = true := by kernel_rfl
 have := byte_all h c
 rw [byte_back] at this
 simpa using this
theorem okIn_targ (c : UInt8) : okIn 33 false (c.toNat : Int) = targC c := by
 have h : ((List.range 256).all fun n => okIn 33 false (n : Int) == targC (UInt8.ofNat n)) = true := by kernel_rfl
 have := byte_all h c
 rw [byte_back] at this
 simpa using this
theorem within_at (x : ByteArray) (hx : x.size ≤ 9223372036854775806) (first : Int) (tab : Bool) (p : UInt8 → Bool) (hp : ∀ c : UInt8, okIn first tab (c.toNat : Int) = p c) (d : Nat) :
  ∀ (i k : Nat), x.size - i = d → i ≤ x.size → 2 * d + 5 ≤ k → head_within.l0 k x first tab (x.size : Int) i = some ((x.data.toList.drop i).all p) := by
 have hsz := size_data x
 induction d with
 | zero =>
  intro i k hd hi hk
  obtain ⟨k, rfl⟩ : ∃ j, k = j + 1 := ⟨k - 1, by omega⟩
  unfold head_within.l0
  rw [if_neg (by omega), List.drop_of_length_le (by omega)]
  rfl
 | succ d ih =>
  intro i k hd hi hk
  obtain ⟨k, rfl⟩ : ∃ j, k = j + 2 := ⟨k - 2, by omega⟩
  have hlt : i < x.size := by omega
  have hl : i < x.data.toList.length := by omega
  have hj : head_within.l0 (k + 2) x first tab (x.size : Int) i = head_within.j1 (k + 1) x first tab (x.size : Int) i (!okIn first tab (x.data.toList[i].toNat : Int)) := by
   unfold head_within.l0
   rw [if_pos (by omega), if_pos (by omega), if_pos (by omega), bt_low hlt]
   unfold okIn
   cases tab <;> (split <;> (try rfl) <;> (split <;> rfl))
  rw [hj, hp, List.drop_eq_getElem_cons hl, List.all_cons]
  unfold head_within.j1
  cases hc : p x.data.toList[i] with
  | true => rw [if_neg (by decide), wrap_nx i (by omega), ih (i + 1) k (by omega) (by omega) (by omega), Bool.true_and]
  | false => rw [if_pos (by decide), Bool.false_and]
theorem within_ev (x : ByteArray) (hx : x.size ≤ 9223372036854775806) (first : Int) (tab : Bool) (p : UInt8 → Bool) (hp : ∀ c : UInt8, okIn first tab (c.toNat : Int) = p c) (k : Nat) (hk : 2 * x.size + 5 ≤ k) : head_within.f k x first tab = some (x.data.toList.all p) := by
 unfold head_within.f
 have := within_at x hx first tab p hp x.size 0 k (Nat.sub_zero _) (Nat.zero_le _) hk
 rw [List.drop_zero] at this
 exact this
def reasonS (l : List UInt8) : Bool := decide (l.length ≤ 200) && l.all Sp.valC
def targetS (l : List UInt8) : Bool := !l.isEmpty && (decide (l.length ≤ 200) && l.all targC)
theorem reason_ev (x : ByteArray) (hx : x.size ≤ 9223372036854775806) (k : Nat) (hk : 2 * x.size + 5 ≤ k) : head_reason.f k x = some (reasonS x.data.toList) := by
 unfold head_reason.f reasonS
 rw [size_data]
 by_cases h : (x.size : Int) ≤ 200
 ·rw [if_pos h, within_ev x hx 32 true Sp.valC okIn_val k hk, decide_eq_true (by omega : x.size ≤ 200), Bool.true_and]
  rfl
 ·rw [if_neg h, decide_eq_false (by omega : ¬ x.size ≤ 200), Bool.false_and]
theorem target_ev (x : ByteArray) (hx : x.size ≤ 9223372036854775806) (k : Nat) (hk : 2 * x.size + 5 ≤ k) : head_target.f k x = some (targetS x.data.toList) := by
 unfold head_target.f targetS
 rw [toList_data, size_data]
 by_cases h0 : x.data.toList = []
 ·rw [if_pos h0, h0]
  rfl
 ·have e1 : x.data.toList.isEmpty = false := by simpa using h0
  rw [if_neg h0, e1]
  by_cases h : (x.size : Int) ≤ 200
  ·rw [if_pos h, within_ev x hx 33 false targC okIn_targ k hk, decide_eq_true (by omega : x.size ≤ 200)]
   rfl
  ·rw [if_neg h, decide_eq_false (by omega : ¬ x.size ≤ 200)]
   rfl
theorem Rreason_at (x : ByteArray) (hx : x.size ≤ 9223372036854775806) (d : Nat) :
  ∀ (i k : Nat), x.size - i = d → i ≤ x.size → 2 * d + 5 ≤ k → lockageref06_reason.l0 k x i = some ((x.data.toList.drop i).all Sp.valC && decide (x.size ≤ 200)) := by
 have hsz := size_data x
 induction d with
 | zero =>
  intro i k hd hi hk
  obtain ⟨k, rfl⟩ : ∃ j, k = j + 1 := ⟨k - 1, by omega⟩
  unfold lockageref06_reason.l0
  rw [if_neg (by omega), List.drop_of_length_le (by omega)]
  exact congrArg some (decide_eq_decide.2 (by omega))
 | succ d ih =>
  intro i k hd hi hk
  obtain ⟨k, rfl⟩ : ∃ j, k = j + 2 := ⟨k - 2, by omega⟩
  have hlt : i < x.size := by omega
  have hl : i < x.data.toList.length := by omega
  have hj : lockageref06_reason.l0 (k + 2) x i = lockageref06_reason.j1 (k + 1) x i (badV (x.data.toList[i].toNat : Int)) := by
   unfold lockageref06_reason.l0
   rw [if_pos (by omega), if_pos (by omega), bt_low hlt]
   unfold badV
   split
   ·rfl
   ·split <;> rfl
  rw [hj, badV_ev, List.drop_eq_getElem_cons hl, List.all_cons]
  unfold lockageref06_reason.j1
  cases hc : Sp.valC x.data.toList[i] with
  | true => rw [if_neg (by decide), wrap_nx i (by omega), ih (i + 1) k (by omega) (by omega) (by omega), Bool.true_and]
  | false => rw [if_pos (by decide), Bool.false_and, Bool.false_and]
theorem Rreason_ev (x : ByteArray) (hx : x.size ≤ 9223372036854775806) (k : Nat) (hk : 2 * x.size + 5 ≤ k) : lockageref06_reason.f k x = some (reasonS x.data.toList) := by
 unfold lockageref06_reason.f
 have := Rreason_at x hx x.size 0 k (Nat.sub_zero _) (Nat.zero_le _) hk
 rw [List.drop_zero] at this
 rw [show lockageref06_reason.l0 k x 0 = _ from this]
 unfold reasonS
 rw [size_data, Bool.and_comm]
theorem Rtarget_at (x : ByteArray) (hx : x.size ≤ 9223372036854775806) (d : Nat) :
  ∀ (i k : Nat), x.size - i = d → i ≤ x.size → d + 5 ≤ k → lockageref06_target.l0 k x i = some ((x.data.toList.drop i).all targC && (!x.data.toList.isEmpty && decide (x.size ≤ 200))) := by
 have hsz := size_data x
 induction d with
 | zero =>
  intro i k hd hi hk
  obtain ⟨k, rfl⟩ : ∃ j, k = j + 1 := ⟨k - 1, by omega⟩
  unfold lockageref06_target.l0
  rw [if_neg (by omega), List.drop_of_length_le (by omega), toList_data]
  by_cases h0 : x.data.toList = []
  ·rw [if_pos h0, h0]
   rfl
  ·have e1 : x.data.toList.isEmpty = false := by simpa using h0
   rw [if_neg h0, e1]
   exact congrArg some (decide_eq_decide.2 (by omega))
 | succ d ih =>
  intro i k hd hi hk
  obtain ⟨k, rfl⟩ : ∃ j, k = j + 1 := ⟨k - 1, by omega⟩
  have hlt : i < x.size := by omega
  have hl : i < x.data.toList.length := by omega
  unfold lockageref06_target.l0
  rw [if_pos (by omega), if_pos (by omega), bt_low hlt, List.drop_eq_getElem_cons hl, List.all_cons]
  generalize hb : x.data.toList[i] = b
  by_cases h1 : (b.toNat : Int) < 33
  ·have : targC b = false := by unfold targC; simp; omega
   rw [if_pos h1, this, Bool.false_and, Bool.false_and]
  ·by_cases h2 : (b.toNat : Int) > 126
   ·have : targC b = false := by unfold targC; simp; omega
    rw [if_neg h1, if_pos h2, this, Bool.false_and, Bool.false_and]
   ·have : targC b = true := by unfold targC; simp; omega
    rw [if_neg h1, if_neg h2, this, Bool.true_and, wrap_nx i (by omega), ih (i + 1) k (by omega) (by omega) (by omega)]
theorem Rtarget_ev (x : ByteArray) (hx : x.size ≤ 9223372036854775806) (k : Nat) (hk : x.size + 5 ≤ k) : lockageref06_target.f k x = some (targetS x.data.toList) := by
 unfold lockageref06_target.f
 have := Rtarget_at x hx x.size 0 k (Nat.sub_zero _) (Nat.zero_le _) hk
 rw [List.drop_zero] at this
 rw [show lockageref06_target.l0 k x 0 = _ from this]
 unfold targetS
 rw [size_data, Bool.and_comm, Bool.and_assoc]
theorem Rfields_at (B : Nat) (hB : B ≤ 9223372036854775806) (fs : List S40) (hl : fs.length < 4398046511104) (hs : ∀ x ∈ fs, x.f0.size ≤ B ∧ x.f1.size ≤ B) (d : Nat) :
  ∀ (i k : Nat), fs.length - i = d → i ≤ fs.length → d + 4 * B + 60 ≤ k → lockageref06_fields.l0 k fs i = some (!(fs.drop i).any badF && decide (fs.length ≤ 20)) := by
 induction d with
 | zero =>
  intro i k hd hi hk
  obtain ⟨k, rfl⟩ : ∃ j, k = j + 1 := ⟨k - 1, by omega⟩
  unfold lockageref06_fields.l0
  rw [if_neg (by omega), List.drop_of_length_le (by omega)]
  exact congrArg some (decide_eq_decide.2 (by omega))
 | succ d ih =>
  intro i k hd hi hk
  obtain ⟨k, rfl⟩ : ∃ j, k = j + 1 := ⟨k - 1, by omega⟩
  have hlt : i < fs.length := by omega
  have hx : rd_T40 fs (i : Int) = fs[i] := by simp [rd_T40, hlt]
  have hm := hs fs[i] (List.getElem_mem hlt)
  unfold lockageref06_fields.l0
  rw [if_pos (by omega), if_pos (by omega), hx, RefName_ev _ (by omega) k (by omega), RefValue_ev _ (by omega) k (by omega), List.drop_eq_getElem_cons hlt, List.any_cons]
  simp only [Option.bind_some]
  have eb : badF fs[i] = (!Sp.nameB fs[i].f0.data.toList || !Sp.valB fs[i].f1.data.toList) := rfl
  rw [eb, wrap_nx i (by omega)]
  cases Sp.nameB fs[i].f0.data.toList with
  | false => rw [if_neg (by decide)]; rfl
  | true =>
   rw [if_pos rfl]
   cases Sp.valB fs[i].f1.data.toList with
   | false => rw [if_neg (by decide)]; rfl
   | true =>
    rw [if_pos rfl, ih (i + 1) k (by omega) (by omega) (by omega)]
    rfl
theorem Rfields_ev (B : Nat) (hB : B ≤ 9223372036854775806) (fs : List S40) (hl : fs.length < 4398046511104) (hs : ∀ x ∈ fs, x.f0.size ≤ B ∧ x.f1.size ≤ B) (k : Nat) (hk : fs.length + 4 * B + 60 ≤ k) :
  lockageref06_fields.f k fs = some (!fs.any badF && decide (fs.length ≤ 20)) := by
 unfold lockageref06_fields.f
 have := Rfields_at B hB fs hl hs fs.length 0 k (Nat.sub_zero _) (Nat.zero_le _) (by omega)
 rw [List.drop_zero] at this
 exact this
end Go.Proofs.YtapeodbgobkjeaaGreatDoor.P
namespace Go.Proofs.YtapeodbgobkjeaaGreatDoor.P
open Go.RowKit Go.Proofs.YtapeodbgobkjeaaGreatDoorW.PrintWords Go.Proofs.YtapeodbgobkjeaaGreatDoorW.PrintLast Go.Proofs.YtapeodbgobkjeaaGreatDoorW.PrintMore
def mNames : List ByteArray := [(⟨#[72, 111, 115, 116]⟩ : ByteArray), (⟨#[67, 111, 110, 116, 101, 110, 116, 45, 76, 101, 110, 103, 116, 104]⟩ : ByteArray), (⟨#[84, 114, 97, 110, 115, 102, 101, 114, 45, 69, 110, 99, 111, 100, 105, 110, 103]⟩ : ByteArray), (⟨#[67, 111, 110, 110, 101, 99, 116, 105, 111, 110]⟩ : ByteArray), (⟨#[67, 111, 111, 107, 105, 101]⟩ : ByteArray), (⟨#[86, 97, 114, 121]⟩ : ByteArray), (⟨#[65]⟩ : ByteArray), (⟨#[97, 99, 99, 101, 112, 116]⟩ : ByteArray), (⟨#[82, 97, 110, 103, 101]⟩ : ByteArray), (⟨#[67, 97, 99, 104, 101, 45, 67, 111, 110, 116, 114, 111, 108]⟩ : ByteArray), (⟨#[65, 117, 116, 104, 111, 114, 105, 122, 97, 116, 105, 111, 110]⟩ : ByteArray), (⟨#[88, 45, 70, 111, 114, 119, 97, 114, 100, 101, 100, 45, 70, 111, 114]⟩ : ByteArray), (⟨#[75, 101, 101, 112, 45, 65, 108, 105, 118, 101]⟩ : ByteArray)]
def mVals : List ByteArray := [(⟨#[]⟩ : ByteArray), (⟨#[51]⟩ : ByteArray), (⟨#[99, 104, 117, 110, 107, 101, 100]⟩ : ByteArray), (⟨#[99, 108, 111, 115, 101]⟩ : ByteArray), (⟨#[107, 101, 101, 112, 45, 97, 108, 105, 118, 101, 44, 32, 65]⟩ : ByteArray), (⟨#[97, 44, 32, 98]⟩ : ByteArray), (⟨#[110, 111, 45, 115, 116, 111, 114, 101]⟩ : ByteArray), (⟨#[48]⟩ : ByteArray), (⟨#[120]⟩ : ByteArray), (⟨#[65, 99, 99, 101, 112, 116]⟩ : ByteArray), (⟨#[97, 99, 99, 101, 112, 116, 44, 32, 65]⟩ : ByteArray)]
def mMeths : List ByteArray := [(⟨#[71, 69, 84]⟩ : ByteArray), (⟨#[80, 79, 83, 84]⟩ : ByteArray), (⟨#[72, 69, 65, 68]⟩ : ByteArray), (⟨#[80, 85, 84]⟩ : ByteArray), (⟨#[120, 45, 121]⟩ : ByteArray)]
def mTargs : List ByteArray := [(⟨#[47]⟩ : ByteArray), (⟨#[47, 97, 47, 98]⟩ : ByteArray), (⟨#[47, 97, 63, 120, 61, 49]⟩ : ByteArray), (⟨#[42]⟩ : ByteArray), (⟨#[47, 37, 52, 49]⟩ : ByteArray)]
theorem rdOf_mem {l : List ByteArray} {i : Int} (h0 : 0 ≤ i) (h : i < (l.length : Int)) : rdOf ByteArray.empty l i ∈ l := by
 have hl : i.toNat < l.length := by omega
 unfold rdOf
 rw [List.getD_eq_getElem?_getD, List.getElem?_eq_getElem hl]
 exact List.getElem_mem hl
theorem Pick_ok (l : List Int) (hl : l.length ≤ 281474976710656) (hw : ∀ x ∈ l, (Lit.int .u8 x).wf = true) (i n : Nat) (hi : i ≤ 1000) (hn : 0 < n) :
  ∃ r : Int, lockagelaw06_Maker_Pick.f l i n = some (r, ((i + 1 : Nat) : Int)) ∧ 0 ≤ r ∧ r < n := by
 have e1 : wrap64 ((i : Int) + 1) = ((i + 1 : Nat) : Int) := by unfold wrap64; omega
 have e2 : wrap64 (((i + 1 : Nat) : Int) - 1) = (i : Int) := by unfold wrap64; omega
 unfold lockagelaw06_Maker_Pick.f
 rw [e1, e2]
 clear e1 e2
 by_cases h : ((i + 1 : Nat) : Int) > (l.length : Int)
 ·rw [if_pos h]
  exact ⟨0, rfl, by omega, by omega⟩
 ·have hx : rd l (i : Int) = l[i]'(by omega) := by simp [rd, show i < l.length by omega]
  have hb := bounds_u8 (hw (l[i]'(by omega)) (List.getElem_mem _))
  have ex : wrap64 (l[i]'(by omega)) = l[i]'(by omega) := by
   generalize l[i]'(by omega) = v at hb
   unfold wrap64; omega
  rw [if_neg h, if_pos (by omega), if_pos (by omega), if_neg (by omega), hx, ex]
  exact ⟨_, rfl, Int.tmod_nonneg _ hb.1, Int.tmod_lt_of_pos _ (by omega)⟩
def MFs (l : List S40) : Prop := ∀ x ∈ l, x.f0 ∈ mNames ∧ x.f1 ∈ mVals
theorem Head_l0 (l : List Int) (hl : l.length ≤ 281474976710656) (hw : ∀ x ∈ l, (Lit.int .u8 x).wf = true) (m t s : ByteArray) (st mi : Int) (d : Nat) :
  ∀ (i k : Nat) (acc : List S40), d ≤ 6 → acc.length + d ≤ 6 → i + 2 * d ≤ 900 → d + 1 ≤ k → MFs acc →
   ∃ fs j, lockagelaw06_Maker_Head.l0 k (d : Int) l (i : Int) m t st s mi acc = some (m, t, st, s, mi, fs, j) ∧ fs.length ≤ 6 ∧ MFs fs := by
 induction d with
 | zero =>
  intro i k acc hd ha hi hk hm
  obtain ⟨k, rfl⟩ : ∃ j, k = j + 1 := ⟨k - 1, by omega⟩
  unfold lockagelaw06_Maker_Head.l0
  rw [if_neg (by omega)]
  exact ⟨acc, _, rfl, by omega, hm⟩
 | succ d ih =>
  intro i k acc hd ha hi hk hm
  obtain ⟨k, rfl⟩ : ∃ j, k = j + 1 := ⟨k - 1, by omega⟩
  obtain ⟨r1, p1, a1, b1⟩ := Pick_ok l hl hw i 13 (by omega) (by omega)
  obtain ⟨r2, p2, a2, b2⟩ := Pick_ok l hl hw (i + 1) 11 (by omega) (by omega)
  have hm2 : MFs (acc ++ [(⟨rdOf ByteArray.empty mNames r1, rdOf ByteArray.empty mVals r2⟩ : S40)]) := by
   intro x hx
   rcases List.mem_append.1 hx with hx | hx
   ·exact hm x hx
   ·obtain rfl := List.mem_singleton.1 hx
    exact ⟨rdOf_mem a1 b1, rdOf_mem a2 b2⟩
  obtain ⟨fs, j, h1, h2, h3⟩ := ih (i + 2) k _ (by omega) (by simp; omega) (by omega) (by omega) hm2
  refine ⟨fs, j, ?_, h2, h3⟩
  have q1 : lockagelaw06_Maker_Pick.f l (i : Int) 13 = some (r1, ((i + 1 : Nat) : Int)) := p1
  have q2 : lockagelaw06_Maker_Pick.f l ((i + 1 : Nat) : Int) 11 = some (r2, ((i + 2 : Nat) : Int)) := p2
  have e1 : wrap64 (((d + 1 : Nat) : Int) - 1) = (d : Int) := by unfold wrap64; omega
  have c1 : ((d + 1 : Nat) : Int) > 0 := by omega
  have c2 : acc.length < 4398046511104 := by omega
  clear p1 p2 hm2 ih hm hi hk ha hd
  simp only [mNames, mVals] at h1
  unfold lockagelaw06_Maker_Head.l0
  simp only [Option.bind_some, List.length_cons, List.length_nil, Nat.zero_add, Nat.reduceAdd, if_pos c1, q1, q2, if_pos a1, if_pos b1, if_pos a2, if_pos b2, if_pos c2, e1]
  exact h1
theorem Head_j0 (l : List Int) (hl : l.length ≤ 281474976710656) (hw : ∀ x ∈ l, (Lit.int .u8 x).wf = true) (m t s : ByteArray) (st mi : Int) (i k : Nat) (hi : i ≤ 100) (hk : 20 ≤ k) :
  ∃ fs j, lockagelaw06_Maker_Head.j0 k l (i : Int) m t st s mi = some (m, t, st, s, mi, fs, j) ∧ fs.length ≤ 6 ∧ MFs fs := by
 obtain ⟨k, rfl⟩ : ∃ j, k = j + 1 := ⟨k - 1, by omega⟩
 obtain ⟨r, p, a, b⟩ := Pick_ok l hl hw i 7 (by omega) (by omega)
 obtain ⟨d, rfl⟩ := Int.eq_ofNat_of_zero_le a
 obtain ⟨fs, j, h1, h2, h3⟩ := Head_l0 l hl hw m t s st mi d (i + 1) k [] (by omega) (by simp; omega) (by omega) (by omega) (fun x hx => by cases hx)
 refine ⟨fs, j, ?_, h2, h3⟩
 unfold lockagelaw06_Maker_Head.j0
 dsimp only
 have q : lockagelaw06_Maker_Pick.f l (i : Int) 7 = some ((d : Int), ((i + 1 : Nat) : Int)) := p
 rw [q]
 simp only [Option.bind_some]
 exact h1
theorem Made_false (l : List Int) (hl : l.length ≤ 281474976710656) (hw : ∀ x ∈ l, (Lit.int .u8 x).wf = true) :
  ∃ m t mi fs, (∀ k, 20 ≤ k → lockagelaw06_Made.f k l false = some (m, t, 0, ⟨#[]⟩, mi, fs)) ∧ m ∈ mMeths ∧ t ∈ mTargs ∧ (mi = 0 ∨ mi = 1) ∧ fs.length ≤ 6 ∧ MFs fs := by
 obtain ⟨r1, p1, a1, b1⟩ := Pick_ok l hl hw 0 2 (by omega) (by omega)
 obtain ⟨r2, p2, a2, b2⟩ := Pick_ok l hl hw 1 5 (by omega) (by omega)
 obtain ⟨r3, p3, a3, b3⟩ := Pick_ok l hl hw 2 5 (by omega) (by omega)
 obtain ⟨fs, j, h1, h2, h3⟩ := Head_j0 l hl hw (rdOf ByteArray.empty mMeths r2) (rdOf ByteArray.empty mTargs r3) ⟨#[]⟩ 0 (wrap64 (1 - r1)) 3 20 (by omega) (by omega)
 refine ⟨rdOf ByteArray.empty mMeths r2, rdOf ByteArray.empty mTargs r3, wrap64 (1 - r1), fs, fun k hk => at_rounds (lockagelaw06_Made.mono l false) hk ?_, rdOf_mem a2 b2, rdOf_mem a3 b3, ?_, h2, h3⟩
 ·unfold lockagelaw06_Made.f lockagelaw06_Maker_Head.f
  have q1 : lockagelaw06_Maker_Pick.f l 0 2 = some (r1, 1) := p1
  have q2 : lockagelaw06_Maker_Pick.f l 1 5 = some (r2, 2) := p2
  have q3 : lockagelaw06_Maker_Pick.f l 2 5 = some (r3, 3) := p3
  have q4 : lockagelaw06_Maker_Head.j0 20 l 3 (rdOf ByteArray.empty mMeths r2) (rdOf ByteArray.empty mTargs r3) 0 ⟨#[]⟩ (wrap64 (1 - r1)) = some (rdOf ByteArray.empty mMeths r2, rdOf ByteArray.empty mTargs r3, 0, ⟨#[]⟩, wrap64 (1 - r1), fs, j) := h1
  rw [q1]
  simp only [Option.bind_some]
  rw [if_neg (by decide), q2]
  simp only [Option.bind_some]
  simp only [List.length_cons, List.length_nil, Nat.zero_add, Nat.reduceAdd]
  rw [if_pos a2, if_pos b2, q3]
  simp only [Option.bind_some]
  rw [if_pos a3, if_pos b3]
  simp only [mMeths, mTargs] at q4
  rw [q4]
  rfl
 ·have : r1 = 0 ∨ r1 = 1 := by omega
  rcases this with rfl | rfl
  ·exact .inr (by unfold wrap64; omega)
  ·exact .inl (by unfold wrap64; omega)
end Go.Proofs.YtapeodbgobkjeaaGreatDoor.P
namespace Go.Proofs.YtapeodbgobkjeaaGreatDoor.P
open Go.RowKit Go.Proofs.YtapeodbgobkjeaaGreatDoorW.PrintWords Go.Proofs.YtapeodbgobkjeaaGreatDoorW.PrintLast Go.Proofs.YtapeodbgobkjeaaGreatDoorW.PrintMore
def mStats : List Int := [200, 404, 304, 204, 100, 599, 503]
def mReas : List ByteArray := [(⟨#[79, 75]⟩ : ByteArray), (⟨#[]⟩ : ByteArray), (⟨#[78, 111, 116, 32, 70, 111, 117, 110, 100]⟩ : ByteArray), (⟨#[97, 9, 98]⟩ : ByteArray)]
theorem rd_mem {l : List Int} {i : Int} (h0 : 0 ≤ i) (h : i < (l.length : Int)) : rd l i ∈ l := by
 have hl : i.toNat < l.length := by omega
 unfold rd
 rw [List.getD_eq_getElem?_getD, List.getElem?_eq_getElem hl]
 exact List.getElem_mem hl
theorem Made_true (l : List Int) (hl : l.length ≤ 281474976710656) (hw : ∀ x ∈ l, (Lit.int .u8 x).wf = true) :
  ∃ st s mi fs, (∀ k, 20 ≤ k → lockagelaw06_Made.f k l true = some (⟨#[]⟩, ⟨#[]⟩, st, s, mi, fs)) ∧ st ∈ mStats ∧ s ∈ mReas ∧ (mi = 0 ∨ mi = 1) ∧ fs.length ≤ 6 ∧ MFs fs := by
 obtain ⟨r1, p1, a1, b1⟩ := Pick_ok l hl hw 0 2 (by omega) (by omega)
 obtain ⟨r2, p2, a2, b2⟩ := Pick_ok l hl hw 1 7 (by omega) (by omega)
 obtain ⟨r3, p3, a3, b3⟩ := Pick_ok l hl hw 2 4 (by omega) (by omega)
 obtain ⟨fs, j, h1, h2, h3⟩ := Head_j0 l hl hw ⟨#[]⟩ ⟨#[]⟩ (rdOf ByteArray.empty mReas r3) (rd mStats r2) (wrap64 (1 - r1)) 3 20 (by omega) (by omega)
 refine ⟨rd mStats r2, rdOf ByteArray.empty mReas r3, wrap64 (1 - r1), fs, fun k hk => at_rounds (lockagelaw06_Made.mono l true) hk ?_, rd_mem a2 b2, rdOf_mem a3 b3, ?_, h2, h3⟩
 ·unfold lockagelaw06_Made.f lockagelaw06_Maker_Head.f
  have q1 : lockagelaw06_Maker_Pick.f l 0 2 = some (r1, 1) := p1
  have q2 : lockagelaw06_Maker_Pick.f l 1 7 = some (r2, 2) := p2
  have q3 : lockagelaw06_Maker_Pick.f l 2 4 = some (r3, 3) := p3
  have q4 : lockagelaw06_Maker_Head.j0 20 l 3 ⟨#[]⟩ ⟨#[]⟩ (rd mStats r2) (rdOf ByteArray.empty mReas r3) (wrap64 (1 - r1)) = some (⟨#[]⟩, ⟨#[]⟩, rd mStats r2, rdOf ByteArray.empty mReas r3, wrap64 (1 - r1), fs, j) := h1
  rw [q1]
  simp only [Option.bind_some]
  rw [if_pos trivial, q2]
  simp only [Option.bind_some, List.length_cons, List.length_nil, Nat.zero_add, Nat.reduceAdd]
  rw [if_pos a2, if_pos b2, q3]
  simp only [Option.bind_some]
  rw [if_pos a3, if_pos b3]
  simp only [mStats, mReas] at q4
  rw [q4]
  rfl
 ·have : r1 = 0 ∨ r1 = 1 := by omega
  rcases this with rfl | rfl
  ·exact .inr (by unfold wrap64; omega)
  ·exact .inl (by unfold wrap64; omega)
end Go.Proofs.YtapeodbgobkjeaaGreatDoor.P
namespace Go.Proofs.YtapeodbgobkjeaaGreatDoor.P
open Go.RowKit Go.Proofs.YtapeodbgobkjeaaGreatDoorW.PrintWords Go.Proofs.YtapeodbgobkjeaaGreatDoorW.PrintLast Go.Proofs.YtapeodbgobkjeaaGreatDoorW.PrintMore
theorem any_drop (l1 : List ByteArray) (f : ByteArray) (j : Nat) (h : j < l1.length) : (l1.drop j).any (H.sameName f) = (H.sameName f l1[j] || (l1.drop (j + 1)).any (H.sameName f)) := by
 rw [List.drop_eq_getElem_cons h, List.any_cons]
theorem RefDrop_in (B : Nat) (hB : B ≤ 9223372036854775806) (l : List S40) (l1 : List ByteArray) (hl : l.length < 4398046511104) (hl1 : l1.length < 8796093022208) (hn : ∀ x ∈ l, x.f0.size ≤ B) (hn1 : ∀ x ∈ l1, x.size ≤ B)
  (acc : List S40) (i : Nat) (hi : i < l.length) (hacc : acc.length ≤ i) (K : Nat) (hK : B + 1 ≤ K) (R : List S40)
  (hR : ∀ k, K ≤ k → lockageref05_Drop.l0 k l l1 (acc ++ (if keeps l1 l[i] = true then [l[i]] else [])) ((i + 1 : Nat) : Int) = some R) :
  ∀ (d j k : Nat) (b : Bool), l1.length - j = d → j ≤ l1.length → (b && !((l1.drop j).any (H.sameName l[i].f0))) = keeps l1 l[i] → d + 1 + K ≤ k → lockageref05_Drop.l1 k l l1 acc i b j = some R
 | d, j, 0, b, hd, hj, hb, hk => by omega
 | d, j, k + 1, b, hd, hj, hb, hk => by
  unfold lockageref05_Drop.l1
  have hx : rd_T40 l (i : Int) = l[i] := by simp [rd_T40, hi]
  have hs := hn l[i] (List.getElem_mem hi)
  by_cases hlt : j < l1.length
  ·have hy : rdOf ByteArray.empty l1 (j : Int) = l1[j] := by simp [rdOf, hlt]
   have hs1 := hn1 l1[j] (List.getElem_mem hlt)
   rw [if_pos (by omega), hx, hy, wrap_next j (by omega)]
   rw [any_drop _ _ _ hlt] at hb
   cases b with
   | false =>
    rw [if_neg (by decide)]
    exact RefDrop_in B hB l l1 hl hl1 hn hn1 acc i hi hacc K hK R hR (d - 1) (j + 1) k false (by omega) (by omega) (by simpa using hb) (by omega)
   | true =>
    rw [if_pos rfl, if_pos (by omega), if_pos (by omega), Low_ev _ (by omega) k (by omega)]
    simp only [Option.bind_some]
    rw [if_pos (by omega), Low_ev _ (by omega) k (by omega)]
    simp only [Option.bind_some]
    refine RefDrop_in B hB l l1 hl hl1 hn hn1 acc i hi hacc K hK R hR (d - 1) (j + 1) k _ (by omega) (by omega) ?_ (by omega)
    rw [← hb, toList_data, toList_data]
    show ((Sp.lower l[i].f0.data.toList != Sp.lower l1[j].data.toList) && _) = _
    unfold H.sameName
    have : (Sp.lower l[i].f0.data.toList != Sp.lower l1[j].data.toList) = !(Sp.lower l1[j].data.toList == Sp.lower l[i].f0.data.toList) := by
     rw [bne, Bool.beq_comm]
    rw [this]
    simp [Bool.not_or]
  ·rw [if_neg (by omega), hx]
   rw [List.drop_of_length_le (by omega)] at hb
   simp only [List.any_nil, Bool.not_false, Bool.and_true] at hb
   have h2 := hR k (by omega)
   rw [← hb] at h2
   cases b with
   | true =>
    rw [if_pos rfl, if_pos (by omega), if_pos (by omega), if_pos (by omega), wrap_next i (by omega)]
    exact h2
   | false =>
    rw [if_neg (by decide), wrap_next i (by omega)]
    simpa using h2
theorem RefDrop_at (B : Nat) (hB : B ≤ 9223372036854775806) (l : List S40) (l1 : List ByteArray) (hl : l.length < 4398046511104) (hl1 : l1.length < 8796093022208) (hn : ∀ x ∈ l, x.f0.size ≤ B) (hn1 : ∀ x ∈ l1, x.size ≤ B) :
  ∀ (d i k : Nat) (acc : List S40), l.length - i = d → i ≤ l.length → acc.length ≤ i → d * (l1.length + 2) + B + 2 ≤ k → lockageref05_Drop.l0 k l l1 acc i = some (acc ++ (l.drop i).filter (keeps l1))
 | d, i, 0, acc, hd, hi, hacc, hk => by omega
 | 0, i, k + 1, acc, hd, hi, hacc, hk => by
  unfold lockageref05_Drop.l0
  rw [if_neg (by omega), List.drop_of_length_le (by omega)]
  simp
 | d + 1, i, k + 1, acc, hd, hi, hacc, hk => by
  have hlt : i < l.length := by omega
  have hm : (d + 1) * (l1.length + 2) = d * (l1.length + 2) + (l1.length + 2) := Nat.succ_mul _ _
  unfold lockageref05_Drop.l0
  rw [if_pos (by omega)]
  have ed : l.drop i = l[i] :: l.drop (i + 1) := List.drop_eq_getElem_cons hlt
  have ef : acc ++ (l.drop i).filter (keeps l1) = (acc ++ (if keeps l1 l[i] = true then [l[i]] else [])) ++ (l.drop (i + 1)).filter (keeps l1) := by
   rw [ed, List.filter_cons]
   split <;> simp
  rw [ef]
  refine RefDrop_in B hB l l1 hl hl1 hn hn1 acc i hlt hacc (d * (l1.length + 2) + B + 2) (by omega) _ (fun k' hk' => ?_) l1.length 0 k true (by omega) (by omega) (by simp [keeps]) (by omega)
  refine RefDrop_at B hB l l1 hl hl1 hn hn1 d (i + 1) k' _ (by omega) (by omega) ?_ hk'
  split <;> simp <;> omega
theorem RefDrop_ev (B : Nat) (hB : B ≤ 9223372036854775806) (l : List S40) (l1 : List ByteArray) (hl : l.length < 4398046511104) (hl1 : l1.length < 8796093022208) (hn : ∀ x ∈ l, x.f0.size ≤ B) (hn1 : ∀ x ∈ l1, x.size ≤ B) (k : Nat) (hk : l.length * (l1.length + 2) + B + 2 ≤ k) :
  lockageref05_Drop.f k l l1 = some (l.filter (keeps l1)) := by
 unfold lockageref05_Drop.f
 have := RefDrop_at B hB l l1 hl hl1 hn hn1 l.length 0 k [] (by omega) (by omega) (by simp) hk
 simpa using this
theorem Drop_f (l0 : List S40) (l1 : List ByteArray) (h0 : ∀ x ∈ l0, x.f0.size ≤ 9223372036854775806) (h1 : ∀ x ∈ l1, x.size ≤ 9223372036854775806) (n0 : l0.length < 4398046511104) (n1 : l1.length < 4398046511104) : field_Drop.f l0 l1 = some (l0.filter (keeps l1)) := by
 unfold field_Drop.f
 rw [if_pos]
 simp only [Bool.and_eq_true, decide_eq_true_eq, smallB, List.all_eq_true, List.mem_map]
 refine ⟨?_, h1, n0, n1⟩
 rintro x ⟨y, hy, rfl⟩
 exact h0 y hy
end Go.Proofs.YtapeodbgobkjeaaGreatDoor.P
namespace Go.Proofs.YtapeodbgobkjeaaGreatDoor.P
open Go.RowKit Go.Proofs.YtapeodbgobkjeaaGreatDoorW.PrintWords Go.Proofs.YtapeodbgobkjeaaGreatDoorW.PrintLast Go.Proofs.YtapeodbgobkjeaaGreatDoorW.PrintMore
theorem digit16_at (d : Nat) (h : d < 10) : (⟨#[48, 49, 50, 51, 52, 53, 54, 55, 56, 57, 97, 98, 99, 100, 101, 102]⟩ : ByteArray).extract d (d + 1) = ⟨#[UInt8.ofNat (48 + d)]⟩ := by
 have a : ((List.range 10).all fun d => ((⟨#[48, 49, 50, 51, 52, 53, 54, 55, 56, 57, 97, 98, 99, 100, 101, 102]⟩ : ByteArray).extract d (d + 1)).data.toList == [UInt8.ofNat (48 + d)]) = true := by kernel_rfl
 rw [List.all_eq_true] at a
 have := a d (List.mem_range.2 h)
 exact H.ba_ext (by simpa using this)
theorem wrap_m (m : Nat) (h : m < 10) : wrap64 ((m : Int) + 1) = ((m + 1 : Nat) : Int) := by unfold wrap64; omega
theorem wrap_d (m : Nat) (h : m ≤ 9007199254740992) : wrap64 (m : Int) = (m : Int) := by unfold wrap64; omega
theorem RefText_ev : ∀ (n k : Nat), n ≤ 9007199254740992 → 2 * Lib.nDigits n + 2 ≤ k → lockageref03_Text.f k (n : Int) 10 = some ⟨(Lib.decDigits n).toArray⟩ := by
 intro n
 induction n using Nat.strongRecOn with
 | _ n ih =>
  intro k hn hk
  have hd1 : 1 ≤ Lib.nDigits n := by
   rw [Lib.nDigits]; split <;> omega
  obtain ⟨k, rfl⟩ : ∃ j, k = j + 2 := ⟨k - 2, by omega⟩
  have et : Int.tmod (n : Int) 10 = ((n % 10 : Nat) : Int) := rfl
  have ed : Int.tdiv (n : Int) 10 = ((n / 10 : Nat) : Int) := rfl
  have hm : n % 10 < 10 := Nat.mod_lt _ (by decide)
  rw [lockageref03_Text.f]
  have hf : lockageref03_Fits.f (n : Int) = some true := by
   unfold lockageref03_Fits.f
   rw [if_pos (by omega), decide_eq_true (by omega)]
  rw [hf, Option.bind_some, if_pos rfl, if_pos rfl]
  rw [lockageref03_Text.j0, if_neg (by decide), if_neg (by decide), et, wrap_m _ hm, if_pos (by omega), if_pos (by omega), if_pos (by omega), Int.toNat_natCast, Int.toNat_natCast, digit16_at _ hm]
  by_cases h10 : n < 10
  ·rw [if_pos (by omega), Lib.decDigits_one h10, Nat.mod_eq_of_lt h10]
  ·rw [if_neg (by omega), ed]
   have hnd : Lib.nDigits n = Lib.nDigits (n / 10) + 1 := by rw [Lib.nDigits, dif_neg h10]
   rw [wrap_d (n / 10) (by omega), ih (n / 10) (by omega) k (by omega) (by omega)]
   simp only [Option.bind_some]
   have hl : (⟨(Lib.decDigits (n / 10)).toArray⟩ : ByteArray).size ≤ 30 := by
    rw [mk_size, Lib.decDigits_length]
    have := Lib.nDigits_le20 (n / 10) (by omega)
    omega
   have h1 : (⟨#[UInt8.ofNat (48 + n % 10)]⟩ : ByteArray).size = 1 := rfl
   rw [if_pos (by rw [h1]; omega)]
   congr 1
   apply H.ba_ext
   rw [Lib.decDigits.eq_1 n, dif_neg h10]
   simp [ByteArray.data_append]
theorem num_text (n : Int) (h0 : -9223372036854775808 ≤ n) (h1 : n ≤ 9223372036854775807) : num_Text.f n 10 = some (H.text10 n) ∧ (H.text10 n).size ≤ 30 := by
 refine ⟨by unfold num_Text.f; rw [if_pos rfl, if_pos h0, if_pos h1], ?_⟩
 unfold H.text10
 split
 ·rw [mk_size]
  have := Lib.itoa_length_le n h0 h1
  omega
 ·decide
theorem both_text (n : Int) (h0 : -9223372036854775808 ≤ n) (h1 : n ≤ 9223372036854775807) : num_Text.f n 10 = some (H.text10 n) ∧ (H.text10 n).size ≤ 30 ∧ ∀ k, 60 ≤ k → lockageref03_Text.f k n 10 = some (H.text10 n) := by
 refine ⟨(num_text n h0 h1).1, (num_text n h0 h1).2, fun k hk => ?_⟩
 ·unfold H.text10
  split
  ·rename_i h
   obtain ⟨u, rfl⟩ : ∃ u : Nat, n = u := ⟨n.toNat, by omega⟩
   rw [Lib.itoa_nonneg, RefText_ev u k (by omega) (by have := Lib.nDigits_le20 u (by omega); omega)]
  ·rename_i h
   obtain ⟨k, rfl⟩ : ∃ j, k = j + 2 := ⟨k - 2, by omega⟩
   rw [lockageref03_Text.f]
   have hf : lockageref03_Fits.f n = some false := by
    unfold lockageref03_Fits.f
    by_cases hn : n ≥ 0
    ·rw [if_pos hn, decide_eq_false (fun e => h ⟨hn, e⟩)]
    ·rw [if_neg hn]
   rw [hf, Option.bind_some, if_neg (by decide), lockageref03_Text.j0, if_pos rfl]
end Go.Proofs.YtapeodbgobkjeaaGreatDoor.P
