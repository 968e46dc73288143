/- Several parts together: Plain facts about the plain functions of header fields: small letters, trimming, names, cutting; lists of bytes alone; What the printed functions of header fields come to: names, values, what a name has; plain Lean, no program; What the reference functions of header fields come to: small letters, what a name has; plain Lean, no program; What the reference functions of header fields come to, of any texts: names, blanks, trimming, values; plain Lean, no program; What the reference's Value comes to, of any text; plain Lean, no program; Numbers of decimal digits: num.Parse and the reference's Parse come to the same, of any text; plain Lean, no program; What field.Parse and the reference's Parse of a field come to, of any text; plain Lean, no program; May a head be: head.Right and the reference's Right come to the same, of any head; plain Lean, no program; What lockagelaw06.Made comes to: a right head of at most six fields, names and values from two lists; plain Lean, no program; What lockagelaw06.Made comes to where it makes an answer; plain Lean, no program; Decimal digits: num.Text and the reference's Text come to the same; plain Lean, no program; Heads as texts: what head.Parse comes to, of any text; plain Lean, no program; What head.Parse comes to, whole; plain Lean, no program; A head's text: what head.Print comes to, of any head, and that it is parsed to the same; plain Lean, no program; A right head's text is parsed to the same head; what is parsed is right; plain Lean, no program; What is parsed is right, and its text is not much longer; made heads; awake; plain Lean, no program; The reference's comparing of heads, and a text cut by four bytes; plain Lean, no program; The reference's Parse of heads comes to the same as head.Parse, of any text; plain Lean, no program; The reference's first lines and Parse; plain Lean, no program; The reference's Right, Text and Print of heads; same and told answer true; plain Lean, no program; Texts made of up to sixteen pieces (law 06), and a text that ends in two line ends, cut; plain Lean, no program; The laws HeadText, HeadSmall, HeadAny, HeadMade, HeadLimits answer true; plain Lean, no program. -/
import Derived.Test.YtemhokkfefidlaaGreatDoorHZA
import Derived.Test.YtemhokkfefidlaaGreatDoorHZB
import Derived.Lib.LazyBuf
import Derived.Test.YtemhokkfefidlaaGreatDoorPx8
import Derived.Test.YtemhokkfefidlaaGreatDoorPx12
import Derived.Test.YtemhokkfefidlaaGreatDoorPx3
import Derived.Test.YtemhokkfefidlaaGreatDoorPx2
import Derived.Test.YtemhokkfefidlaaGreatDoorPx11
import Derived.Test.YtemhokkfefidlaaGreatDoorPx10
import Derived.Test.YtemhokkfefidlaaGreatDoorPx13
import Derived.Test.YtemhokkfefidlaaGreatDoorPx5
import Derived.Test.YtemhokkfefidlaaGreatDoorHG
import Derived.Test.YtemhokkfefidlaaGreatDoorPx4
import Derived.Test.YtemhokkfefidlaaGreatDoorPx9
import Derived.Test.YtemhokkfefidlaaGreatDoorPx16
import Derived.Test.YtemhokkfefidlaaGreatDoorPx17
import Derived.Test.YtemhokkfefidlaaGreatDoorHK
import Derived.OpenShut
import Derived.Test.YtemhokkfefidlaaGreatDoorPx6
import Derived.Lib.ItoaLen
import Derived.Test.YtemhokkfefidlaaGreatDoorHZJ
import Derived.Test.YtemhokkfefidlaaGreatDoorPx7
import Derived.Test.YtemhokkfefidlaaGreatDoorPx14
import Derived.Test.YtemhokkfefidlaaGreatDoorPx18
import Derived.Test.YtemhokkfefidlaaGreatDoorPx0
import Derived.Test.YtemhokkfefidlaaGreatDoorHZO
import Derived.Test.YtemhokkfefidlaaGreatDoorPx19
set_option linter.unusedVariables false
set_option linter.unusedSimpArgs false
namespace Go.Proofs.YtemhokkfefidlaaGreatDoor.Sp
theorem dropWhile_snoc {p : UInt8 → Bool} {c : UInt8} (hc : p c = true) : ∀ l : List UInt8, (l ++ [c]).dropWhile p = if (l.dropWhile p).isEmpty then [] else l.dropWhile p ++ [c]
 | [] => by simp [hc]
 | b :: l => by
  rw [List.cons_append, List.dropWhile_cons, List.dropWhile_cons]
  split
  ·exact dropWhile_snoc hc l
  ·simp
theorem trim_blank {c : UInt8} (hc : ([32, 9] : List UInt8).contains c = true) (l : List UInt8) : trim (c :: l) = trim l := by
 unfold trim Lib.trimS
 have e : Lib.trimRightS (c :: l) [32, 9] = if (Lib.trimRightS l [32, 9]).isEmpty then [] else c :: Lib.trimRightS l [32, 9] := by
  unfold Lib.trimRightS
  rw [List.reverse_cons, dropWhile_snoc (p := (([32, 9] : List UInt8).contains ·)) hc, List.isEmpty_reverse]
  split
  ·rfl
  ·rw [List.reverse_append]
   rfl
 rw [e]
 split
 ·rename_i h
  rw [List.isEmpty_iff] at h
  rw [h]
 ·unfold Lib.trimLeftS
  rw [List.dropWhile_cons, if_pos hc]
theorem trim_length (l : List UInt8) : (trim l).length ≤ l.length := by
 unfold trim Lib.trimS Lib.trimLeftS Lib.trimRightS
 have h1 := (List.dropWhile_sublist (l := (l.reverse.dropWhile (([32, 9] : List UInt8).contains ·)).reverse) (([32, 9] : List UInt8).contains ·)).length_le
 have h2 := (List.dropWhile_sublist (l := l.reverse) (([32, 9] : List UInt8).contains ·)).length_le
 rw [List.length_reverse] at h1 h2
 exact Nat.le_trans h1 h2
theorem nameC_not {c : UInt8} (h : nameC c = true) : c ≠ 58 := by rintro rfl; exact absurd h (by decide)
theorem cutL_length (c : UInt8) (l : List UInt8) : (cutL c l).length ≤ l.length := by
 unfold cutL
 split
 ·exact (List.takeWhile_sublist _).length_le
 ·exact Nat.le_refl _
theorem cutR_length (c : UInt8) (l : List UInt8) : (cutR c l).length ≤ l.length := by
 unfold cutR
 split
 ·rw [List.length_drop]
  have := (List.dropWhile_sublist (l := l) (· != c)).length_le
  omega
 ·simp
end Go.Proofs.YtemhokkfefidlaaGreatDoor.Sp
namespace Go.Proofs.YtemhokkfefidlaaGreatDoor.P
open Go.RowKit Go.Proofs.YtemhokkfefidlaaGreatDoorW.PrintWords Go.Proofs.YtemhokkfefidlaaGreatDoorW.PrintLast Go.Proofs.YtemhokkfefidlaaGreatDoorW.PrintMore

theorem size_data (s : ByteArray) : s.data.toList.length = s.size := by rw [Array.length_toList]; rfl
theorem name_f {a : ByteArray} (h : a.size ≤ 9223372036854775806) : field_Name.f a = some (Sp.nameB a.data.toList) := by unfold field_Name.f; rw [if_pos h]
theorem value_f {a : ByteArray} (h : a.size ≤ 9223372036854775806) : field_Value.f a = some (Sp.valB a.data.toList) := by unfold field_Value.f; rw [if_pos h]
theorem trim_f {a : ByteArray} (h : a.size ≤ 9223372036854775806) : field_Trim.f a = some ⟨(Sp.trim a.data.toList).toArray⟩ := by unfold field_Trim.f; rw [if_pos h]
theorem mk_size (l : List UInt8) : (⟨l.toArray⟩ : ByteArray).size = l.length := by show l.toArray.size = _; rw [List.size_toArray]
theorem toList_data (a : ByteArray) : a.toList = a.data.toList := ByteArray.toList_eq a
end Go.Proofs.YtemhokkfefidlaaGreatDoor.P
namespace Go.Proofs.YtemhokkfefidlaaGreatDoor.P
open Go.RowKit Go.Proofs.YtemhokkfefidlaaGreatDoorW.PrintWords Go.Proofs.YtemhokkfefidlaaGreatDoorW.PrintLast Go.Proofs.YtemhokkfefidlaaGreatDoorW.PrintMore

theorem bt_low {x : ByteArray} {i : Nat} (h : i < x.size) : bt x (i : Int) = ((x.data.toList[i]'(by rw [size_data]; exact h)).toNat : Int) := by
 unfold bt
 rw [dif_pos (by simpa using h)]
 rfl
end Go.Proofs.YtemhokkfefidlaaGreatDoor.P
namespace Go.Proofs.YtemhokkfefidlaaGreatDoor.P
open Go.RowKit Go.Proofs.YtemhokkfefidlaaGreatDoorW.PrintWords Go.Proofs.YtemhokkfefidlaaGreatDoorW.PrintLast Go.Proofs.YtemhokkfefidlaaGreatDoorW.PrintMore
theorem byte_all {p : Nat → Bool} (h : ((List.range 256).all p) = true) (c : UInt8) : p c.toNat = true := by
 rw [List.all_eq_true] at h
 exact h c.toNat (List.mem_range.2 c.toNat_lt)
theorem byte_back (c : UInt8) : UInt8.ofNat c.toNat = c := by simp
theorem tchar_ev (c : UInt8) (k : Nat) (hk : 40 ≤ k) : lockageref05_tchar.f k (c.toNat : Int) = some (Sp.nameC c) := by
 have h : ((List.range 256).all fun n => lockageref05_tchar.f 40 (n : Int) == some (Sp.nameC (UInt8.ofNat n))) = true := by kernel_rfl
 have := byte_all h c
 rw [byte_back] at this
 exact at_rounds (lockageref05_tchar.mono _) hk (by simpa using this)
theorem blank_ev (c : UInt8) : lockageref05_blank.f (c.toNat : Int) = some (([32, 9] : List UInt8).contains c) := by
 have h : ((List.range 256).all fun n => lockageref05_blank.f (n : Int) == some (([32, 9] : List UInt8).contains (UInt8.ofNat n))) = true := by kernel_rfl
 have := byte_all h c
 rw [byte_back] at this
 simpa using this
theorem wrap_nx (n : Nat) (h : n ≤ 9223372036854775806) : wrap64 ((n : Int) + 1) = ((n + 1 : Nat) : Int) := by unfold wrap64; omega
theorem RefName_at (x : ByteArray) (hx : x.size ≤ 9223372036854775806) (d : Nat) :
  ∀ (i k : Nat), x.size - i = d → i ≤ x.size → d + 50 ≤ k → lockageref05_Name.l0 k x i = some (Sp.allB Sp.nameC (x.data.toList.drop i) && (!x.data.toList.isEmpty && decide (x.data.toList.length ≤ 40))) := by
 have hsz := size_data x
 induction d with
 | zero =>
  intro i k hd hi hk
  obtain ⟨k, rfl⟩ : ∃ j, k = j + 1 := ⟨k - 1, by omega⟩
  unfold lockageref05_Name.l0
  rw [if_neg (by omega), List.drop_of_length_le (by omega), toList_data]
  by_cases h : x.data.toList = []
  ·rw [if_pos h, h]
   rfl
  ·rw [if_neg h]
   have e1 : x.data.toList.isEmpty = false := by simpa using h
   have e2 : decide ((x.size : Int) ≤ 40) = decide (x.data.toList.length ≤ 40) := by rw [hsz]; exact decide_eq_decide.2 (by omega)
   rw [e1, e2]
   rfl
 | succ d ih =>
  intro i k hd hi hk
  obtain ⟨k, rfl⟩ : ∃ j, k = j + 1 := ⟨k - 1, by omega⟩
  have hlt : i < x.size := by omega
  have hl : i < x.data.toList.length := by omega
  have ed : x.data.toList.drop i = x.data.toList[i] :: x.data.toList.drop (i + 1) := List.drop_eq_getElem_cons hl
  unfold lockageref05_Name.l0
  rw [if_pos (by omega), if_pos (by omega), bt_low hlt, tchar_ev _ k (by omega), ed]
  simp only [Option.bind_some]
  have ea : Sp.allB Sp.nameC (x.data.toList[i] :: x.data.toList.drop (i + 1)) = (Sp.nameC x.data.toList[i] && Sp.allB Sp.nameC (x.data.toList.drop (i + 1))) := rfl
  rw [ea]
  cases hc : Sp.nameC x.data.toList[i] with
  | true =>
   rw [if_pos rfl, wrap_nx i (by omega), ih (i + 1) k (by omega) (by omega) (by omega), Bool.true_and]
  | false =>
   rw [if_neg (by decide), Bool.false_and, Bool.false_and]
theorem RefName_ev (x : ByteArray) (hx : x.size ≤ 9223372036854775806) (k : Nat) (hk : x.size + 50 ≤ k) : lockageref05_Name.f k x = some (Sp.nameB x.data.toList) := by
 unfold lockageref05_Name.f
 have := RefName_at x hx x.size 0 k (Nat.sub_zero _) (Nat.zero_le _) hk
 rw [List.drop_zero] at this
 rw [show lockageref05_Name.l0 k x 0 = _ from this]
 unfold Sp.nameB
 rw [Bool.and_comm, Bool.and_assoc]
theorem right_snoc (l : List UInt8) (b : UInt8) : Lib.trimRightS (l ++ [b]) [32, 9] = if ([32, 9] : List UInt8).contains b = true then Lib.trimRightS l [32, 9] else l ++ [b] := by
 unfold Lib.trimRightS
 rw [List.reverse_append]
 show (List.dropWhile (([32, 9] : List UInt8).contains ·) (b :: l.reverse)).reverse = _
 rw [List.dropWhile_cons]
 split
 ·rfl
 ·rw [List.reverse_cons, List.reverse_reverse]
theorem right_cons (l : List UInt8) (b : UInt8) (hb : ([32, 9] : List UInt8).contains b = false) : Lib.trimRightS (b :: l) [32, 9] = b :: Lib.trimRightS l [32, 9] := by
 unfold Lib.trimRightS
 rw [List.reverse_cons]
 have : ∀ q : List UInt8, (q ++ [b]).dropWhile (([32, 9] : List UInt8).contains ·) = q.dropWhile (([32, 9] : List UInt8).contains ·) ++ [b] := by
  intro q
  induction q with
  | nil => rw [List.nil_append, List.dropWhile_cons, if_neg (by rw [hb]; exact Bool.false_ne_true)]; rfl
  | cons c q ih =>
   rw [List.cons_append, List.dropWhile_cons, List.dropWhile_cons]
   split
   ·exact ih
   ·rfl
 rw [this, List.reverse_append]
 rfl
theorem trim_swap : ∀ l : List UInt8, Lib.trimRightS (Lib.trimLeftS l [32, 9]) [32, 9] = Sp.trim l
 | [] => rfl
 | b :: l => by
  cases hb : ([32, 9] : List UInt8).contains b with
  | true =>
   rw [Sp.trim_blank hb, ← trim_swap l]
   unfold Lib.trimLeftS
   rw [List.dropWhile_cons, if_pos hb]
  | false =>
   unfold Sp.trim Lib.trimS
   rw [right_cons l b hb]
   unfold Lib.trimLeftS
   rw [List.dropWhile_cons, if_neg (by rw [hb]; exact Bool.false_ne_true), List.dropWhile_cons, if_neg (by rw [hb]; exact Bool.false_ne_true), right_cons l b hb]
theorem Trim_l1 (n : Nat) : ∀ (x : ByteArray) (k : Nat), x.size = n → x.size ≤ 9223372036854775806 → n + 1 ≤ k → lockageref05_Trim.l1 k x = some ⟨(Lib.trimRightS x.data.toList [32, 9]).toArray⟩ := by
 induction n with
 | zero =>
  intro x k hn hx hk
  obtain ⟨k, rfl⟩ : ∃ j, k = j + 1 := ⟨k - 1, by omega⟩
  have hsz := size_data x
  have e : x.data.toList = [] := List.eq_nil_of_length_eq_zero (by omega)
  unfold lockageref05_Trim.l1
  rw [if_neg (by omega), e]
  exact congrArg some (H.ba_ext (by rw [e]; rfl))
 | succ n ih =>
  intro x k hn hx hk
  obtain ⟨k, rfl⟩ : ∃ j, k = j + 1 := ⟨k - 1, by omega⟩
  have hsz := size_data x
  have hlt : n < x.size := by omega
  have ew : wrap64 ((x.size : Int) - 1) = (n : Int) := by rw [hn]; unfold wrap64; omega
  have hsp : x.data.toList = x.data.toList.take n ++ [x.data.toList[n]'(by omega)] := by
   have := List.take_append_getElem (l := x.data.toList) (i := n) (by omega)
   rw [this, List.take_of_length_le (by omega)]
  have hex : (x.extract 0 n).data.toList = x.data.toList.take n := by
   rw [Lib.extract_data]
   simp
  have hes : (x.extract 0 n).size = n := by rw [← size_data, hex, List.length_take]; omega
  unfold lockageref05_Trim.l1
  rw [ew, if_pos (by omega), if_pos (by omega), if_pos (by omega), bt_low hlt, blank_ev]
  simp only [Option.bind_some]
  rw [if_pos (show (n : Int) ≤ (x.size : Int) by omega), Int.toNat_natCast]
  generalize hb : x.data.toList[n]'(by omega) = b at hsp ⊢
  have er := right_snoc (x.data.toList.take n) b
  rw [← hsp] at er
  rw [er]
  split
  ·rw [ih _ k hes (by omega) (by omega), hex]
  ·exact congrArg some (H.ba_ext (by simp))
theorem Trim_l0 (n : Nat) : ∀ (x : ByteArray) (k : Nat), x.size = n → x.size ≤ 9223372036854775806 → 2 * n + 5 ≤ k → lockageref05_Trim.l0 k x = some ⟨(Sp.trim x.data.toList).toArray⟩ := by
 induction n with
 | zero =>
  intro x k hn hx hk
  obtain ⟨k, rfl⟩ : ∃ j, k = j + 2 := ⟨k - 2, by omega⟩
  have hsz := size_data x
  have e : x.data.toList = [] := List.eq_nil_of_length_eq_zero (by omega)
  unfold lockageref05_Trim.l0
  rw [if_neg (by omega)]
  unfold lockageref05_Trim.j1
  dsimp only
  rw [Trim_l1 0 x k hn hx (by omega), e]
  rfl
 | succ n ih =>
  intro x k hn hx hk
  obtain ⟨k, rfl⟩ : ∃ j, k = j + 2 := ⟨k - 2, by omega⟩
  have hsz := size_data x
  have hlt : 0 < x.size := by omega
  have hl0 : 0 < x.data.toList.length := by omega
  have hsp : x.data.toList = x.data.toList[0] :: x.data.toList.drop 1 := by
   have := List.drop_eq_getElem_cons hl0
   rw [List.drop_zero] at this
   exact this
  have hex : (x.extract 1 x.size).data.toList = x.data.toList.drop 1 := Lib.extract_to_end x 1
  have hes : (x.extract 1 x.size).size = n := by rw [← size_data, hex, List.length_drop]; omega
  have hbt := bt_low (x := x) (i := 0) hlt
  have hbl := blank_ev (x.data.toList[0])
  unfold lockageref05_Trim.l0
  rw [if_pos (by omega), if_pos (by omega)]
  rw [show bt x 0 = _ from hbt, hbl]
  simp only [Option.bind_some]
  rw [if_pos (show (1 : Int) ≤ (x.size : Int) by omega)]
  generalize x.data.toList[0] = b at hsp ⊢
  cases hb : ([32, 9] : List UInt8).contains b with
  | true =>
   rw [if_pos rfl, ih _ (k + 1) hes (by omega) (by omega), hex, hsp, Sp.trim_blank hb]
   rfl
  | false =>
   rw [if_neg (by decide)]
   unfold lockageref05_Trim.j1
   dsimp only
   rw [Trim_l1 (n + 1) x k hn hx (by omega), ← trim_swap x.data.toList]
   have : Lib.trimLeftS x.data.toList [32, 9] = x.data.toList := by
    rw [hsp]
    unfold Lib.trimLeftS
    rw [List.dropWhile_cons, if_neg (by rw [hb]; exact Bool.false_ne_true)]
   rw [this]
theorem RefTrim_ev (x : ByteArray) (hx : x.size ≤ 9223372036854775806) (k : Nat) (hk : 2 * x.size + 5 ≤ k) : lockageref05_Trim.f k x = some ⟨(Sp.trim x.data.toList).toArray⟩ := Trim_l0 x.size x k rfl hx hk
end Go.Proofs.YtemhokkfefidlaaGreatDoor.P
namespace Go.Proofs.YtemhokkfefidlaaGreatDoor.P
open Go.RowKit Go.Proofs.YtemhokkfefidlaaGreatDoorW.PrintWords Go.Proofs.YtemhokkfefidlaaGreatDoorW.PrintLast Go.Proofs.YtemhokkfefidlaaGreatDoorW.PrintMore
def badV (c : Int) : Bool := if c = 9 then false else if c < 32 then true else decide (c > 126)
theorem badV_ev (c : UInt8) : badV (c.toNat : Int) = !Sp.valC c := by
 have h : ((List.range 256).all fun n => badV (n : Int) == !Sp.valC (UInt8.ofNat n)) = true := by kernel_rfl
 have := byte_all h c
 rw [byte_back] at this
 simpa using this
theorem RefValue_at (x : ByteArray) (hx : x.size ≤ 9223372036854775806) (d : Nat) :
  ∀ (i k : Nat), x.size - i = d → i ≤ x.size → 2 * d + 2 * x.size + 10 ≤ k → lockageref05_Value.l0 k x i = some (Sp.allB Sp.valC (x.data.toList.drop i) && (decide (x.data.toList.length ≤ 200) && (Sp.trim x.data.toList == x.data.toList))) := by
 have hsz := size_data x
 induction d with
 | zero =>
  intro i k hd hi hk
  obtain ⟨k, rfl⟩ : ∃ j, k = j + 1 := ⟨k - 1, by omega⟩
  unfold lockageref05_Value.l0
  rw [if_neg (by omega), List.drop_of_length_le (by omega)]
  by_cases h : (x.size : Int) ≤ 200
  ·rw [if_pos h, RefTrim_ev x hx k (by omega), decide_eq_true (by omega : x.data.toList.length ≤ 200)]
   simp only [Option.bind_some]
   rw [toList_data, toList_data]
   rfl
  ·rw [if_neg h, decide_eq_false (by omega : ¬ x.data.toList.length ≤ 200)]
   rfl
 | succ d ih =>
  intro i k hd hi hk
  obtain ⟨k, rfl⟩ : ∃ j, k = j + 2 := ⟨k - 2, by omega⟩
  have hlt : i < x.size := by omega
  have hl : i < x.data.toList.length := by omega
  have ed : x.data.toList.drop i = x.data.toList[i] :: x.data.toList.drop (i + 1) := List.drop_eq_getElem_cons hl
  have ea : Sp.allB Sp.valC (x.data.toList[i] :: x.data.toList.drop (i + 1)) = (Sp.valC x.data.toList[i] && Sp.allB Sp.valC (x.data.toList.drop (i + 1))) := rfl
  have hj : lockageref05_Value.l0 (k + 2) x i = lockageref05_Value.j1 (k + 1) x i (badV (x.data.toList[i].toNat : Int)) := by
   unfold lockageref05_Value.l0
   rw [if_pos (by omega), if_pos (by omega), bt_low hlt]
   unfold badV
   split
   ·rfl
   ·split <;> rfl
  rw [hj, badV_ev, ed, ea]
  unfold lockageref05_Value.j1
  cases hc : Sp.valC x.data.toList[i] with
  | true =>
   rw [if_neg (by decide), wrap_nx i (by omega), ih (i + 1) k (by omega) (by omega) (by omega), Bool.true_and]
  | false =>
   rw [if_pos (by decide), Bool.false_and, Bool.false_and]
theorem RefValue_ev (x : ByteArray) (hx : x.size ≤ 9223372036854775806) (k : Nat) (hk : 4 * x.size + 10 ≤ k) : lockageref05_Value.f k x = some (Sp.valB x.data.toList) := by
 unfold lockageref05_Value.f
 have := RefValue_at x hx x.size 0 k (Nat.sub_zero _) (Nat.zero_le _) (by omega)
 rw [List.drop_zero] at this
 rw [show lockageref05_Value.l0 k x 0 = _ from this]
 unfold Sp.valB
 rw [Bool.and_comm, Bool.and_assoc]
end Go.Proofs.YtemhokkfefidlaaGreatDoor.P
namespace Go.Proofs.YtemhokkfefidlaaGreatDoor.P
open Go.RowKit Go.Proofs.YtemhokkfefidlaaGreatDoorW.PrintWords Go.Proofs.YtemhokkfefidlaaGreatDoorW.PrintLast Go.Proofs.YtemhokkfefidlaaGreatDoorW.PrintMore
def digV (c : UInt8) : Int := if 48 ≤ c.toNat && c.toNat ≤ 57 then (c.toNat : Int) - 48 else -1
theorem digit_ev (c : UInt8) (k : Nat) (hk : 20 ≤ k) : num_digit.f k (c.toNat : Int) 10 = some (digV c) := by
 have h : ((List.range 256).all fun n => num_digit.f 20 (n : Int) 10 == some (digV (UInt8.ofNat n))) = true := by kernel_rfl
 have := byte_all h c
 rw [byte_back] at this
 exact at_rounds (num_digit.mono _ _) hk (by simpa using this)
theorem value_ev (c : UInt8) (k : Nat) (hk : 20 ≤ k) : lockageref03_value.f k (c.toNat : Int) 10 = some (digV c) := by
 have h : ((List.range 256).all fun n => lockageref03_value.f 20 (n : Int) 10 == some (digV (UInt8.ofNat n))) = true := by kernel_rfl
 have := byte_all h c
 rw [byte_back] at this
 exact at_rounds (lockageref03_value.mono _ _) hk (by simpa using this)
def isDig (c : UInt8) : Bool := 48 ≤ c.toNat && c.toNat ≤ 57
theorem digV_yes {c : UInt8} (h : isDig c = true) : 0 ≤ digV c ∧ digV c ≤ 9 := by
 unfold isDig at h
 unfold digV
 rw [if_pos h]
 simp only [Bool.and_eq_true, decide_eq_true_eq] at h
 omega
theorem digV_no {c : UInt8} (h : isDig c = false) : digV c = -1 := by
 unfold isDig at h
 unfold digV
 rw [if_neg (by rw [h]; exact Bool.false_ne_true)]
def numS : List UInt8 → Int → Option Int
 | [], n => some n
 | c :: l, n => if n * 10 + digV c ≤ 9007199254740992 then numS l (n * 10 + digV c) else none
def outS : Option Int → Int × Int
 | some n => (n, 0)
 | none => (0, 3)
def parseS (l : List UInt8) : Int × Int := if l = [] then (0, 1) else if l.all isDig = true then outS (numS l 0) else (0, 1)
theorem all_drop (l : List UInt8) (i : Nat) (h : i < l.length) : (l.drop i).all isDig = (isDig l[i] && (l.drop (i + 1)).all isDig) := by
 rw [List.drop_eq_getElem_cons h, List.all_cons]
theorem numS_drop (l : List UInt8) (i : Nat) (h : i < l.length) (n : Int) : numS (l.drop i) n = if n * 10 + digV l[i] ≤ 9007199254740992 then numS (l.drop (i + 1)) (n * 10 + digV l[i]) else none := by
 rw [List.drop_eq_getElem_cons h]
 rfl
theorem Fits_f (n : Int) : num_Fits.f n = some (decide (0 ≤ n) && decide (n ≤ 9007199254740992)) := by
 unfold num_Fits.f
 by_cases h : n ≥ 0
 ·rw [if_pos h, decide_eq_true (show 0 ≤ n from h), Bool.true_and]
 ·rw [if_neg h, decide_eq_false (show ¬ 0 ≤ n from h), Bool.false_and]
theorem RFits_f (n : Int) : lockageref03_Fits.f n = some (decide (0 ≤ n) && decide (n ≤ 9007199254740992)) := by
 unfold lockageref03_Fits.f
 by_cases h : n ≥ 0
 ·rw [if_pos h, decide_eq_true (show 0 ≤ n from h), Bool.true_and]
 ·rw [if_neg h, decide_eq_false (show ¬ 0 ≤ n from h), Bool.false_and]
theorem wrap_of {n : Int} (h : -9223372036854775808 ≤ n ∧ n ≤ 9223372036854775807) : wrap64 n = n := by unfold wrap64; omega
theorem num_bad (x : ByteArray) (hx : x.size ≤ 9223372036854775806) (d : Nat) : ∀ (i k : Nat), x.size - i = d → i ≤ x.size → 2 * d + 30 ≤ k →
  num_Parse.l0 k x 10 0 3 (x.size : Int) i = some (if (x.data.toList.drop i).all isDig = true then (0, 3) else (0, 1)) := by
 have hsz := size_data x
 induction d with
 | zero =>
  intro i k hd hi hk
  obtain ⟨k, rfl⟩ : ∃ j, k = j + 1 := ⟨k - 1, by omega⟩
  unfold num_Parse.l0
  rw [if_neg (by omega), List.drop_of_length_le (by omega)]
  rfl
 | succ d ih =>
  intro i k hd hi hk
  obtain ⟨k, rfl⟩ : ∃ j, k = j + 2 := ⟨k - 2, by omega⟩
  have hlt : i < x.size := by omega
  have hl : i < x.data.toList.length := by omega
  unfold num_Parse.l0
  rw [if_pos (by omega), if_pos (by omega), if_pos (by omega), bt_low hlt, digit_ev _ (k + 1) (by omega), all_drop _ _ hl]
  simp only [Option.bind_some]
  cases hc : isDig x.data.toList[i] with
  | false =>
   rw [if_pos (digV_no hc)]
   rfl
  | true =>
   have hv := digV_yes hc
   rw [if_neg (by omega), if_neg (by decide)]
   unfold num_Parse.j2
   rw [Fits_f]
   simp only [Option.bind_some]
   rw [if_pos (by decide), wrap_nx i (by omega), ih (i + 1) k (by omega) (by omega) (by omega), Bool.true_and]
theorem num_good (x : ByteArray) (hx : x.size ≤ 9223372036854775806) (d : Nat) : ∀ (i k : Nat) (n : Int), x.size - i = d → i ≤ x.size → 2 * d + 30 ≤ k → 0 ≤ n → n ≤ 9007199254740992 →
  num_Parse.l0 k x 10 n 0 (x.size : Int) i = some (if (x.data.toList.drop i).all isDig = true then outS (numS (x.data.toList.drop i) n) else (0, 1)) := by
 have hsz := size_data x
 induction d with
 | zero =>
  intro i k n hd hi hk h0 h1
  obtain ⟨k, rfl⟩ : ∃ j, k = j + 1 := ⟨k - 1, by omega⟩
  unfold num_Parse.l0
  rw [if_neg (by omega), List.drop_of_length_le (by omega)]
  rfl
 | succ d ih =>
  intro i k n hd hi hk h0 h1
  obtain ⟨k, rfl⟩ : ∃ j, k = j + 2 := ⟨k - 2, by omega⟩
  have hlt : i < x.size := by omega
  have hl : i < x.data.toList.length := by omega
  unfold num_Parse.l0
  rw [if_pos (by omega), if_pos (by omega), if_pos (by omega), bt_low hlt, digit_ev _ (k + 1) (by omega), all_drop _ _ hl, numS_drop _ _ hl]
  simp only [Option.bind_some]
  cases hc : isDig x.data.toList[i] with
  | false =>
   rw [if_pos (digV_no hc)]
   rfl
  | true =>
   have hv := digV_yes hc
   generalize digV x.data.toList[i] = v at hv ⊢
   rw [if_neg (by omega), if_pos trivial, wrap_of (n := n * 10) (by omega), wrap_of (n := n * 10 + v) (by omega)]
   unfold num_Parse.j2
   rw [Fits_f, decide_eq_true (show 0 ≤ n * 10 + v by omega)]
   simp only [Option.bind_some, Bool.true_and]
   by_cases hm : n * 10 + v ≤ 9007199254740992
   ·rw [if_pos (decide_eq_true hm), if_pos hm, wrap_nx i (by omega), ih (i + 1) k _ (by omega) (by omega) (by omega) (by omega) hm]
   ·rw [if_neg (by simpa using hm), if_neg hm, wrap_nx i (by omega), num_bad x hx d (i + 1) k (by omega) (by omega) (by omega)]
    rfl
theorem Parse_ev (x : ByteArray) (hx : x.size ≤ 9223372036854775806) (k : Nat) (hk : 2 * x.size + 40 ≤ k) : num_Parse.f k x 10 = some (parseS x.data.toList) := by
 obtain ⟨k, rfl⟩ : ∃ j, k = j + 1 := ⟨k - 1, by omega⟩
 unfold num_Parse.f parseS
 rw [toList_data]
 by_cases h : x.data.toList = []
 ·rw [if_pos h, if_pos h]
  unfold num_Parse.j0
  rfl
 ·rw [if_neg h, if_neg h, if_pos rfl]
  unfold num_Parse.j0
  dsimp only
  rw [if_neg (by decide)]
  have := num_good x hx x.size 0 k 0 (Nat.sub_zero _) (Nat.zero_le _) (by omega) (by decide) (by decide)
  rw [List.drop_zero] at this
  exact this
theorem ref_l1 (x : ByteArray) (hx : x.size ≤ 9223372036854775806) (hall : x.data.toList.all isDig = true) (d : Nat) : ∀ (i k : Nat) (n : Int), x.size - i = d → i ≤ x.size → 2 * d + 60 ≤ k → 0 ≤ n → n ≤ 9007199254740992 →
  lockageref03_Parse.l1 k x 10 n i = some (outS (numS (x.data.toList.drop i) n)) := by
 have hsz := size_data x
 induction d with
 | zero =>
  intro i k n hd hi hk h0 h1
  obtain ⟨k, rfl⟩ : ∃ j, k = j + 1 := ⟨k - 1, by omega⟩
  unfold lockageref03_Parse.l1
  rw [if_neg (by omega), List.drop_of_length_le (by omega)]
  rfl
 | succ d ih =>
  intro i k n hd hi hk h0 h1
  obtain ⟨k, rfl⟩ : ∃ j, k = j + 2 := ⟨k - 2, by omega⟩
  have hlt : i < x.size := by omega
  have hl : i < x.data.toList.length := by omega
  have hv := digV_yes (List.all_eq_true.1 hall _ (List.getElem_mem hl))
  have eq10 : wrap64 (Int.tdiv 9007199254740992 10) = 900719925474099 := by unfold wrap64; decide
  have hM : lockageref03_Mul.f (k + 1) n 10 = some (if n > 900719925474099 then (0, 3) else (n * 10, 0)) := by
   unfold lockageref03_Mul.f
   rw [RFits_f, RFits_f, decide_eq_true h0, decide_eq_true h1]
   simp only [Option.bind_some, Bool.and_self, if_true]
   unfold lockageref03_Mul.j0
   dsimp only
   rw [if_neg (by decide), if_pos (by decide), if_neg (by decide), eq10]
   by_cases h : n > 900719925474099
   ·rw [if_pos h, if_pos h]
   ·rw [if_neg h, if_neg h, wrap_of (by omega)]
  have hA : ∀ a v : Int, 0 ≤ a → a ≤ 9007199254740992 → 0 ≤ v → v ≤ 9 → lockageref03_Add.f (k + 1) a v = some (if a + v ≤ 9007199254740992 then (a + v, 0) else (0, 3)) := by
   intro a v ha0 ha1 hv0 hv1
   unfold lockageref03_Add.f
   rw [RFits_f, RFits_f, decide_eq_true ha0, decide_eq_true ha1, decide_eq_true hv0, decide_eq_true (show v ≤ 9007199254740992 by omega)]
   simp only [Option.bind_some, Bool.and_self, if_true]
   unfold lockageref03_Add.j0
   dsimp only
   rw [if_neg (by decide), wrap_of (n := 9007199254740992 - v) (by omega)]
   by_cases h : a + v ≤ 9007199254740992
   ·rw [if_neg (by omega), if_pos h, wrap_of (by omega)]
   ·rw [if_pos (by omega), if_neg h]
  unfold lockageref03_Parse.l1
  rw [if_pos (by omega), hM, numS_drop _ _ hl]
  simp only [Option.bind_some]
  rw [if_pos (by omega), bt_low hlt, value_ev _ (k + 1) (by omega)]
  simp only [Option.bind_some]
  generalize digV x.data.toList[i] = v at hv ⊢
  by_cases h : n > 900719925474099
  ·rw [if_pos h, hA 0 v (by decide) (by decide) hv.1 hv.2]
   simp only [Option.bind_some]
   rw [if_neg (by decide), if_neg (by omega)]
   rfl
  ·rw [if_neg h, hA (n * 10) v (by omega) (by omega) hv.1 hv.2]
   simp only [Option.bind_some]
   rw [if_pos trivial]
   by_cases hm : n * 10 + v ≤ 9007199254740992
   ·rw [if_pos hm, if_pos hm]
    simp only [if_true]
    rw [wrap_nx i (by omega)]
    exact ih (i + 1) (k + 1) _ (by omega) (by omega) (by omega) (by omega) hm
   ·rw [if_neg hm, if_neg hm, if_neg (by decide)]
    rfl
theorem ref_l0 (x : ByteArray) (hx : x.size ≤ 9223372036854775806) (d : Nat) : ∀ (i k : Nat), x.size - i = d → i ≤ x.size → (x.data.toList.take i).all isDig = true → d + 2 * x.size + 80 ≤ k →
  lockageref03_Parse.l0 k x 10 i = some (if x.data.toList.all isDig = true then outS (numS x.data.toList 0) else (0, 1)) := by
 have hsz := size_data x
 induction d with
 | zero =>
  intro i k hd hi ht hk
  obtain ⟨k, rfl⟩ : ∃ j, k = j + 1 := ⟨k - 1, by omega⟩
  rw [List.take_of_length_le (by omega)] at ht
  unfold lockageref03_Parse.l0
  rw [if_neg (by omega), if_pos ht]
  have := ref_l1 x hx ht x.size 0 k 0 (Nat.sub_zero _) (Nat.zero_le _) (by omega) (by decide) (by decide)
  rw [List.drop_zero] at this
  exact this
 | succ d ih =>
  intro i k hd hi ht hk
  obtain ⟨k, rfl⟩ : ∃ j, k = j + 1 := ⟨k - 1, by omega⟩
  have hlt : i < x.size := by omega
  have hl : i < x.data.toList.length := by omega
  unfold lockageref03_Parse.l0
  rw [if_pos (by omega), if_pos (by omega), bt_low hlt, value_ev _ k (by omega)]
  simp only [Option.bind_some]
  cases hc : isDig x.data.toList[i] with
  | false =>
   have hall : x.data.toList.all isDig = false := by
    rw [List.all_eq_false]
    exact ⟨_, List.getElem_mem hl, by rw [hc]; exact Bool.false_ne_true⟩
   rw [if_pos (by rw [digV_no hc]; decide), if_neg (by rw [hall]; exact Bool.false_ne_true)]
  | true =>
   have hv := digV_yes hc
   rw [if_neg (by omega), wrap_nx i (by omega)]
   refine ih (i + 1) k (by omega) (by omega) ?_ (by omega)
   rw [List.take_succ_eq_append_getElem hl, List.all_append, ht, List.all_cons, hc]
   rfl
theorem RefParse_ev (x : ByteArray) (hx : x.size ≤ 9223372036854775806) (k : Nat) (hk : 4 * x.size + 100 ≤ k) : lockageref03_Parse.f k x 10 = some (parseS x.data.toList) := by
 obtain ⟨k, rfl⟩ : ∃ j, k = j + 1 := ⟨k - 1, by omega⟩
 unfold lockageref03_Parse.f parseS
 rw [toList_data]
 by_cases h : x.data.toList = []
 ·rw [if_pos h, if_pos h]
  unfold lockageref03_Parse.j0
  rfl
 ·rw [if_neg h, if_neg h, if_pos rfl]
  unfold lockageref03_Parse.j0
  dsimp only
  rw [if_neg (by decide)]
  exact ref_l0 x hx x.size 0 k (Nat.sub_zero _) (Nat.zero_le _) rfl (by omega)
end Go.Proofs.YtemhokkfefidlaaGreatDoor.P
namespace Go.Proofs.YtemhokkfefidlaaGreatDoor.P
open Go.RowKit Go.Proofs.YtemhokkfefidlaaGreatDoorW.PrintWords Go.Proofs.YtemhokkfefidlaaGreatDoorW.PrintLast Go.Proofs.YtemhokkfefidlaaGreatDoorW.PrintMore
def fieldP (l : List UInt8) : ByteArray × ByteArray × Int :=
 if (Sp.cutIs 58 l && (Sp.nameB (Sp.cutL 58 l) && Sp.valB (Sp.trim (Sp.cutR 58 l)))) = true then (⟨(Sp.cutL 58 l).toArray⟩, ⟨(Sp.trim (Sp.cutR 58 l)).toArray⟩, 0) else (⟨#[]⟩, ⟨#[]⟩, 21)
def upto (c : UInt8) (l : List UInt8) : Nat := (l.takeWhile (· != c)).length
theorem upto_nil (c : UInt8) : upto c [] = 0 := rfl
theorem upto_hit (c : UInt8) (l : List UInt8) : upto c (c :: l) = 0 := by
 unfold upto
 rw [List.takeWhile_cons, if_neg (by simp)]
 rfl
theorem upto_miss {c b : UInt8} (h : b ≠ c) (l : List UInt8) : upto c (b :: l) = upto c l + 1 := by
 unfold upto
 rw [List.takeWhile_cons, if_pos (by simpa using h)]
 rfl
theorem upto_le (c : UInt8) : ∀ l : List UInt8, upto c l ≤ l.length
 | [] => Nat.le_refl _
 | b :: l => by
  by_cases h : b = c
  ·rw [h, upto_hit]; omega
  ·rw [upto_miss h, List.length_cons]; have := upto_le c l; omega
theorem upto_lt (c : UInt8) : ∀ l : List UInt8, upto c l < l.length ↔ c ∈ l
 | [] => by simp [upto_nil]
 | b :: l => by
  by_cases h : b = c
  ·rw [h, upto_hit, List.length_cons]
   simp
  ·rw [upto_miss h, List.length_cons, List.mem_cons]
   have := upto_lt c l
   constructor
   ·intro e; exact .inr (this.1 (by omega))
   ·rintro (e | e)
    ·exact absurd e.symm h
    ·have := this.2 e; omega
theorem take_upto (c : UInt8) : ∀ l : List UInt8, l.take (upto c l) = l.takeWhile (· != c)
 | [] => rfl
 | b :: l => by
  by_cases h : b = c
  ·rw [h, upto_hit, List.takeWhile_cons, if_neg (by simp)]; rfl
  ·rw [upto_miss h, List.takeWhile_cons, if_pos (by simpa using h), List.take_succ_cons, take_upto c l]
theorem drop_upto (c : UInt8) : ∀ l : List UInt8, l.drop (upto c l) = l.dropWhile (· != c)
 | [] => rfl
 | b :: l => by
  by_cases h : b = c
  ·rw [h, upto_hit, List.dropWhile_cons, if_neg (by simp)]; rfl
  ·rw [upto_miss h, List.dropWhile_cons, if_pos (by simpa using h), List.drop_succ_cons, drop_upto c l]
theorem cutL_upto (c : UInt8) (l : List UInt8) : l.take (upto c l) = Sp.cutL c l := by
 unfold Sp.cutL
 split
 ·exact take_upto c l
 ·rename_i h
  exact List.take_of_length_le (by have := mt (upto_lt c l).1 h; omega)
theorem cutR_upto (c : UInt8) (l : List UInt8) (h : c ∈ l) : l.drop (upto c l + 1) = Sp.cutR c l := by
 unfold Sp.cutR
 rw [if_pos h, ← drop_upto, List.drop_drop]
theorem ext_to (x : ByteArray) (n : Nat) : x.extract 0 n = ⟨(x.data.toList.take n).toArray⟩ := H.ba_ext (by rw [Lib.extract_data]; simp)
theorem ext_from (x : ByteArray) (n : Nat) : x.extract n x.size = ⟨(x.data.toList.drop n).toArray⟩ := H.ba_ext (by rw [Lib.extract_to_end])
theorem RefFP_l0 (x : ByteArray) (hx : x.size ≤ 9223372036854775806) (d : Nat) : ∀ (i k : Nat), x.size - i = d → i ≤ x.size → d + 5 ≤ k →
  ∃ k', k ≤ k' + d + 1 ∧ lockageref05_Parse.l0 k x i = lockageref05_Parse.j1 k' x ((i + upto 58 (x.data.toList.drop i) : Nat) : Int) := by
 have hsz := size_data x
 induction d with
 | zero =>
  intro i k hd hi hk
  obtain ⟨k, rfl⟩ : ∃ j, k = j + 1 := ⟨k - 1, by omega⟩
  refine ⟨k, by omega, ?_⟩
  rw [lockageref05_Parse.l0, if_neg (by omega), List.drop_of_length_le (by omega), upto_nil, Nat.add_zero]
 | succ d ih =>
  intro i k hd hi hk
  obtain ⟨k, rfl⟩ : ∃ j, k = j + 1 := ⟨k - 1, by omega⟩
  have hlt : i < x.size := by omega
  have hl : i < x.data.toList.length := by omega
  rw [lockageref05_Parse.l0, if_pos (by omega), if_pos (by omega), bt_low hlt, List.drop_eq_getElem_cons hl]
  by_cases hc : x.data.toList[i] = 58
  ·rw [if_pos (by rw [hc]; rfl)]
   refine ⟨k, by omega, ?_⟩
   rw [hc, upto_hit, Nat.add_zero]
  ·have hn : ¬ ((x.data.toList[i].toNat : Int) = 58) := fun e => hc (by
    have e1 : x.data.toList[i].toNat = 58 := by omega
    have := byte_back x.data.toList[i]
    rw [e1] at this
    exact this.symm)
   rw [if_neg hn, wrap_nx i (by omega)]
   obtain ⟨k', h1, h2⟩ := ih (i + 1) k (by omega) (by omega) (by omega)
   refine ⟨k', by omega, ?_⟩
   rw [h2, upto_miss hc]
   congr 2
   omega
theorem RefFParse_ev (x : ByteArray) (hx : x.size ≤ 9223372036854775000) (k : Nat) (hk : 5 * x.size + 100 ≤ k) : lockageref05_Parse.f k x = some (fieldP x.data.toList) := by
 have hsz := size_data x
 unfold lockageref05_Parse.f
 obtain ⟨k', h1, h2⟩ := RefFP_l0 x (by omega) x.size 0 k (Nat.sub_zero _) (Nat.zero_le _) (by omega)
 rw [show lockageref05_Parse.l0 k x 0 = _ from h2, List.drop_zero, Nat.zero_add]
 obtain ⟨n, hn⟩ : ∃ n, n = upto 58 x.data.toList := ⟨_, rfl⟩
 rw [← hn]
 have hle : n ≤ x.size := by rw [hn, ← hsz]; exact upto_le _ _
 have hmem : n < x.size ↔ (58 : UInt8) ∈ x.data.toList := by rw [hn, ← hsz]; exact upto_lt _ _
 obtain ⟨k', rfl⟩ : ∃ j, k' = j + 2 := ⟨k' - 2, by omega⟩
 rw [lockageref05_Parse.j1]
 unfold fieldP
 by_cases hm : n < x.size
 ·have hc : Sp.cutIs 58 x.data.toList = true := by unfold Sp.cutIs; rw [List.contains_iff_mem]; exact hmem.1 hm
  have e1 : x.extract 0 n = ⟨(Sp.cutL 58 x.data.toList).toArray⟩ := by rw [ext_to, hn, cutL_upto]
  have e2 : x.extract (n + 1) x.size = ⟨(Sp.cutR 58 x.data.toList).toArray⟩ := by rw [ext_from, hn, cutR_upto _ _ (hmem.1 hm)]
  have s1 : (⟨(Sp.cutL 58 x.data.toList).toArray⟩ : ByteArray).size ≤ x.size := by rw [← e1, ByteArray.size_extract]; omega
  have s2 : (⟨(Sp.cutR 58 x.data.toList).toArray⟩ : ByteArray).size ≤ x.size := by rw [← e2, ByteArray.size_extract]; omega
  have s3 : (⟨(Sp.trim (Sp.cutR 58 x.data.toList)).toArray⟩ : ByteArray).size ≤ x.size := by
   have := Sp.trim_length (Sp.cutR 58 x.data.toList)
   rw [mk_size] at s2 ⊢
   omega
  rw [if_neg (by omega), if_pos (by omega), if_pos (by omega), Int.toNat_natCast, e1, RefName_ev _ (by omega) _ (by omega), Option.bind_some, hc, Bool.true_and]
  have hw : wrap64 ((n : Int) + 1) = ((n + 1 : Nat) : Int) := wrap_nx n (by omega)
  show lockageref05_Parse.j2 (k' + 1) x (n : Int) (!Sp.nameB (Sp.cutL 58 x.data.toList)) = _
  rw [lockageref05_Parse.j2]
  cases hN : Sp.nameB (Sp.cutL 58 x.data.toList) with
  | false => rw [if_pos (by decide), Bool.false_and, if_neg (by decide)]
  | true =>
   rw [if_neg (by decide), if_pos (by omega), if_pos (by omega), hw, if_pos (by omega), if_pos (by omega), Int.toNat_natCast, Int.toNat_natCast, e2, RefTrim_ev _ (by omega) _ (by omega), Option.bind_some, RefValue_ev _ (by show (⟨(Sp.trim (Sp.cutR 58 x.data.toList)).toArray⟩ : ByteArray).size ≤ _; omega) _ (by show 4 * (⟨(Sp.trim (Sp.cutR 58 x.data.toList)).toArray⟩ : ByteArray).size + 10 ≤ _; omega), Option.bind_some, Bool.true_and, e1]
   show (if Sp.valB (Sp.trim (Sp.cutR 58 x.data.toList)) = true then some ((⟨(Sp.cutL 58 x.data.toList).toArray⟩ : ByteArray), (⟨(Sp.trim (Sp.cutR 58 x.data.toList)).toArray⟩ : ByteArray), (0 : Int)) else some ((⟨#[]⟩ : ByteArray), (⟨#[]⟩ : ByteArray), (21 : Int))) = _
   split <;> rfl
 ·have hc : Sp.cutIs 58 x.data.toList = false := by
   cases e : Sp.cutIs 58 x.data.toList with
   | false => rfl
   | true => unfold Sp.cutIs at e; rw [List.contains_iff_mem] at e; exact absurd (hmem.2 e) hm
  rw [if_pos (by omega), lockageref05_Parse.j2, if_pos rfl, hc, Bool.false_and, if_neg (by decide)]
theorem FParse_ev (x : ByteArray) (hx : x.size ≤ 9223372036854775000) (k : Nat) (hk : 1 ≤ k) : field_Parse.f k x = some (fieldP x.data.toList) := by
 obtain ⟨k, rfl⟩ : ∃ j, k = j + 1 := ⟨k - 1, by omega⟩
 have hsz := size_data x
 have h1 := Sp.cutL_length 58 x.data.toList
 have h2 := Sp.cutR_length 58 x.data.toList
 have h3 := Sp.trim_length (Sp.cutR 58 x.data.toList)
 unfold field_Parse.f strings_Cut.f fieldP
 rw [if_pos (by omega), Option.bind_some]
 dsimp only
 rw [trim_f (by rw [mk_size]; show (Sp.cutR 58 x.data.toList).length ≤ _; omega), Option.bind_some]
 show (if Sp.cutIs 58 x.data.toList = true then _ else _) = _
 cases hc : Sp.cutIs 58 x.data.toList with
 | false => rw [if_neg (by decide), field_Parse.j0, if_pos rfl, Bool.false_and, if_neg (by decide)]
 | true =>
  rw [if_pos rfl, name_f (by rw [mk_size]; show (Sp.cutL 58 x.data.toList).length ≤ _; omega), Option.bind_some, Bool.true_and]
  show (if Sp.nameB (Sp.cutL 58 x.data.toList) = true then _ else _) = _
  cases hN : Sp.nameB (Sp.cutL 58 x.data.toList) with
  | false => rw [if_neg (by decide), field_Parse.j0, if_pos rfl, Bool.false_and, if_neg (by decide)]
  | true =>
   rw [if_pos rfl, value_f (by rw [mk_size]; show (Sp.trim (Sp.cutR 58 x.data.toList)).length ≤ _; omega), Option.bind_some, field_Parse.j0, Bool.true_and]
   show (if (!Sp.valB (Sp.trim (Sp.cutR 58 x.data.toList))) = true then _ else _) = _
   cases hV : Sp.valB (Sp.trim (Sp.cutR 58 x.data.toList)) with
   | false => rw [if_pos (by decide), if_neg (by decide)]
   | true => rw [if_neg (by decide), if_pos rfl]
end Go.Proofs.YtemhokkfefidlaaGreatDoor.P
namespace Go.Proofs.YtemhokkfefidlaaGreatDoor.P
open Go.RowKit Go.Proofs.YtemhokkfefidlaaGreatDoorW.PrintWords Go.Proofs.YtemhokkfefidlaaGreatDoorW.PrintLast Go.Proofs.YtemhokkfefidlaaGreatDoorW.PrintMore
def targC (c : UInt8) : Bool := 33 ≤ c.toNat && c.toNat ≤ 126
def okIn (first : Int) (tab : Bool) (c : Int) : Bool := if c < first then tab && c == 9 else if c > 126 then tab && c == 9 else true
theorem okIn_val (c : UInt8) : okIn 32 true (c.toNat : Int) = Sp.valC c := by
 have h : ((List.range 256).all fun n => okIn 32 true (n : Int) == Sp.valC (UInt8.ofNat n)) = true := by kernel_rfl
 have := byte_all h c
 rw [byte_back] at this
 simpa using this
theorem okIn_targ (c : UInt8) : okIn 33 false (c.toNat : Int) = targC c := by
 have h : ((List.range 256).all fun n => okIn 33 false (n : Int) == targC (UInt8.ofNat n)) = true := by kernel_rfl
 have := byte_all h c
 rw [byte_back] at this
 simpa using this
theorem within_at (x : ByteArray) (hx : x.size ≤ 9223372036854775806) (first : Int) (tab : Bool) (p : UInt8 → Bool) (hp : ∀ c : UInt8, okIn first tab (c.toNat : Int) = p c) (d : Nat) :
  ∀ (i k : Nat), x.size - i = d → i ≤ x.size → 2 * d + 5 ≤ k → head_within.l0 k x first tab (x.size : Int) i = some ((x.data.toList.drop i).all p) := by
 have hsz := size_data x
 induction d with
 | zero =>
  intro i k hd hi hk
  obtain ⟨k, rfl⟩ : ∃ j, k = j + 1 := ⟨k - 1, by omega⟩
  unfold head_within.l0
  rw [if_neg (by omega), List.drop_of_length_le (by omega)]
  rfl
 | succ d ih =>
  intro i k hd hi hk
  obtain ⟨k, rfl⟩ : ∃ j, k = j + 2 := ⟨k - 2, by omega⟩
  have hlt : i < x.size := by omega
  have hl : i < x.data.toList.length := by omega
  have hj : head_within.l0 (k + 2) x first tab (x.size : Int) i = head_within.j1 (k + 1) x first tab (x.size : Int) i (!okIn first tab (x.data.toList[i].toNat : Int)) := by
   unfold head_within.l0
   rw [if_pos (by omega), if_pos (by omega), if_pos (by omega), bt_low hlt]
   unfold okIn
   cases tab <;> (split <;> (try rfl) <;> (split <;> rfl))
  rw [hj, hp, List.drop_eq_getElem_cons hl, List.all_cons]
  unfold head_within.j1
  cases hc : p x.data.toList[i] with
  | true => rw [if_neg (by decide), wrap_nx i (by omega), ih (i + 1) k (by omega) (by omega) (by omega), Bool.true_and]
  | false => rw [if_pos (by decide), Bool.false_and]
theorem within_ev (x : ByteArray) (hx : x.size ≤ 9223372036854775806) (first : Int) (tab : Bool) (p : UInt8 → Bool) (hp : ∀ c : UInt8, okIn first tab (c.toNat : Int) = p c) (k : Nat) (hk : 2 * x.size + 5 ≤ k) : head_within.f k x first tab = some (x.data.toList.all p) := by
 unfold head_within.f
 have := within_at x hx first tab p hp x.size 0 k (Nat.sub_zero _) (Nat.zero_le _) hk
 rw [List.drop_zero] at this
 exact this
def reasonS (l : List UInt8) : Bool := decide (l.length ≤ 200) && l.all Sp.valC
def targetS (l : List UInt8) : Bool := !l.isEmpty && (decide (l.length ≤ 200) && l.all targC)
theorem reason_ev (x : ByteArray) (hx : x.size ≤ 9223372036854775806) (k : Nat) (hk : 2 * x.size + 5 ≤ k) : head_reason.f k x = some (reasonS x.data.toList) := by
 unfold head_reason.f reasonS
 rw [size_data]
 by_cases h : (x.size : Int) ≤ 200
 ·rw [if_pos h, within_ev x hx 32 true Sp.valC okIn_val k hk, decide_eq_true (by omega : x.size ≤ 200), Bool.true_and]
  rfl
 ·rw [if_neg h, decide_eq_false (by omega : ¬ x.size ≤ 200), Bool.false_and]
theorem target_ev (x : ByteArray) (hx : x.size ≤ 9223372036854775806) (k : Nat) (hk : 2 * x.size + 5 ≤ k) : head_target.f k x = some (targetS x.data.toList) := by
 unfold head_target.f targetS
 rw [toList_data, size_data]
 by_cases h0 : x.data.toList = []
 ·rw [if_pos h0, h0]
  rfl
 ·have e1 : x.data.toList.isEmpty = false := by simpa using h0
  rw [if_neg h0, e1]
  by_cases h : (x.size : Int) ≤ 200
  ·rw [if_pos h, within_ev x hx 33 false targC okIn_targ k hk, decide_eq_true (by omega : x.size ≤ 200)]
   rfl
  ·rw [if_neg h, decide_eq_false (by omega : ¬ x.size ≤ 200)]
   rfl
theorem Rreason_at (x : ByteArray) (hx : x.size ≤ 9223372036854775806) (d : Nat) :
  ∀ (i k : Nat), x.size - i = d → i ≤ x.size → 2 * d + 5 ≤ k → lockageref06_reason.l0 k x i = some ((x.data.toList.drop i).all Sp.valC && decide (x.size ≤ 200)) := by
 have hsz := size_data x
 induction d with
 | zero =>
  intro i k hd hi hk
  obtain ⟨k, rfl⟩ : ∃ j, k = j + 1 := ⟨k - 1, by omega⟩
  unfold lockageref06_reason.l0
  rw [if_neg (by omega), List.drop_of_length_le (by omega)]
  exact congrArg some (decide_eq_decide.2 (by omega))
 | succ d ih =>
  intro i k hd hi hk
  obtain ⟨k, rfl⟩ : ∃ j, k = j + 2 := ⟨k - 2, by omega⟩
  have hlt : i < x.size := by omega
  have hl : i < x.data.toList.length := by omega
  have hj : lockageref06_reason.l0 (k + 2) x i = lockageref06_reason.j1 (k + 1) x i (badV (x.data.toList[i].toNat : Int)) := by
   unfold lockageref06_reason.l0
   rw [if_pos (by omega), if_pos (by omega), bt_low hlt]
   unfold badV
   split
   ·rfl
   ·split <;> rfl
  rw [hj, badV_ev, List.drop_eq_getElem_cons hl, List.all_cons]
  unfold lockageref06_reason.j1
  cases hc : Sp.valC x.data.toList[i] with
  | true => rw [if_neg (by decide), wrap_nx i (by omega), ih (i + 1) k (by omega) (by omega) (by omega), Bool.true_and]
  | false => rw [if_pos (by decide), Bool.false_and, Bool.false_and]
theorem Rreason_ev (x : ByteArray) (hx : x.size ≤ 9223372036854775806) (k : Nat) (hk : 2 * x.size + 5 ≤ k) : lockageref06_reason.f k x = some (reasonS x.data.toList) := by
 unfold lockageref06_reason.f
 have := Rreason_at x hx x.size 0 k (Nat.sub_zero _) (Nat.zero_le _) hk
 rw [List.drop_zero] at this
 rw [show lockageref06_reason.l0 k x 0 = _ from this]
 unfold reasonS
 rw [size_data, Bool.and_comm]
theorem Rtarget_at (x : ByteArray) (hx : x.size ≤ 9223372036854775806) (d : Nat) :
  ∀ (i k : Nat), x.size - i = d → i ≤ x.size → d + 5 ≤ k → lockageref06_target.l0 k x i = some ((x.data.toList.drop i).all targC && (!x.data.toList.isEmpty && decide (x.size ≤ 200))) := by
 have hsz := size_data x
 induction d with
 | zero =>
  intro i k hd hi hk
  obtain ⟨k, rfl⟩ : ∃ j, k = j + 1 := ⟨k - 1, by omega⟩
  unfold lockageref06_target.l0
  rw [if_neg (by omega), List.drop_of_length_le (by omega), toList_data]
  by_cases h0 : x.data.toList = []
  ·rw [if_pos h0, h0]
   rfl
  ·have e1 : x.data.toList.isEmpty = false := by simpa using h0
   rw [if_neg h0, e1]
   exact congrArg some (decide_eq_decide.2 (by omega))
 | succ d ih =>
  intro i k hd hi hk
  obtain ⟨k, rfl⟩ : ∃ j, k = j + 1 := ⟨k - 1, by omega⟩
  have hlt : i < x.size := by omega
  have hl : i < x.data.toList.length := by omega
  unfold lockageref06_target.l0
  rw [if_pos (by omega), if_pos (by omega), bt_low hlt, List.drop_eq_getElem_cons hl, List.all_cons]
  generalize hb : x.data.toList[i] = b
  by_cases h1 : (b.toNat : Int) < 33
  ·have : targC b = false := by unfold targC; simp; omega
   rw [if_pos h1, this, Bool.false_and, Bool.false_and]
  ·by_cases h2 : (b.toNat : Int) > 126
   ·have : targC b = false := by unfold targC; simp; omega
    rw [if_neg h1, if_pos h2, this, Bool.false_and, Bool.false_and]
   ·have : targC b = true := by unfold targC; simp; omega
    rw [if_neg h1, if_neg h2, this, Bool.true_and, wrap_nx i (by omega), ih (i + 1) k (by omega) (by omega) (by omega)]
theorem Rtarget_ev (x : ByteArray) (hx : x.size ≤ 9223372036854775806) (k : Nat) (hk : x.size + 5 ≤ k) : lockageref06_target.f k x = some (targetS x.data.toList) := by
 unfold lockageref06_target.f
 have := Rtarget_at x hx x.size 0 k (Nat.sub_zero _) (Nat.zero_le _) hk
 rw [List.drop_zero] at this
 rw [show lockageref06_target.l0 k x 0 = _ from this]
 unfold targetS
 rw [size_data, Bool.and_comm, Bool.and_assoc]
theorem Rfields_at (B : Nat) (hB : B ≤ 9223372036854775806) (fs : List S37) (hl : fs.length < 4398046511104) (hs : ∀ x ∈ fs, x.f0.size ≤ B ∧ x.f1.size ≤ B) (d : Nat) :
  ∀ (i k : Nat), fs.length - i = d → i ≤ fs.length → d + 4 * B + 60 ≤ k → lockageref06_fields.l0 k fs i = some (!(fs.drop i).any badF && decide (fs.length ≤ 20)) := by
 induction d with
 | zero =>
  intro i k hd hi hk
  obtain ⟨k, rfl⟩ : ∃ j, k = j + 1 := ⟨k - 1, by omega⟩
  unfold lockageref06_fields.l0
  rw [if_neg (by omega), List.drop_of_length_le (by omega)]
  exact congrArg some (decide_eq_decide.2 (by omega))
 | succ d ih =>
  intro i k hd hi hk
  obtain ⟨k, rfl⟩ : ∃ j, k = j + 1 := ⟨k - 1, by omega⟩
  have hlt : i < fs.length := by omega
  have hx : rd_T37 fs (i : Int) = fs[i] := by simp [rd_T37, hlt]
  have hm := hs fs[i] (List.getElem_mem hlt)
  unfold lockageref06_fields.l0
  rw [if_pos (by omega), if_pos (by omega), hx, RefName_ev _ (by omega) k (by omega), RefValue_ev _ (by omega) k (by omega), List.drop_eq_getElem_cons hlt, List.any_cons]
  simp only [Option.bind_some]
  have eb : badF fs[i] = (!Sp.nameB fs[i].f0.data.toList || !Sp.valB fs[i].f1.data.toList) := rfl
  rw [eb, wrap_nx i (by omega)]
  cases Sp.nameB fs[i].f0.data.toList with
  | false => rw [if_neg (by decide)]; rfl
  | true =>
   rw [if_pos rfl]
   cases Sp.valB fs[i].f1.data.toList with
   | false => rw [if_neg (by decide)]; rfl
   | true =>
    rw [if_pos rfl, ih (i + 1) k (by omega) (by omega) (by omega)]
    rfl
theorem Rfields_ev (B : Nat) (hB : B ≤ 9223372036854775806) (fs : List S37) (hl : fs.length < 4398046511104) (hs : ∀ x ∈ fs, x.f0.size ≤ B ∧ x.f1.size ≤ B) (k : Nat) (hk : fs.length + 4 * B + 60 ≤ k) :
  lockageref06_fields.f k fs = some (!fs.any badF && decide (fs.length ≤ 20)) := by
 unfold lockageref06_fields.f
 have := Rfields_at B hB fs hl hs fs.length 0 k (Nat.sub_zero _) (Nat.zero_le _) (by omega)
 rw [List.drop_zero] at this
 exact this
end Go.Proofs.YtemhokkfefidlaaGreatDoor.P
namespace Go.Proofs.YtemhokkfefidlaaGreatDoor.P
open Go.RowKit Go.Proofs.YtemhokkfefidlaaGreatDoorW.PrintWords Go.Proofs.YtemhokkfefidlaaGreatDoorW.PrintLast Go.Proofs.YtemhokkfefidlaaGreatDoorW.PrintMore
def mNames : List ByteArray := [(⟨#[72, 111, 115, 116]⟩ : ByteArray), (⟨#[67, 111, 110, 116, 101, 110, 116, 45, 76, 101, 110, 103, 116, 104]⟩ : ByteArray), (⟨#[84, 114, 97, 110, 115, 102, 101, 114, 45, 69, 110, 99, 111, 100, 105, 110, 103]⟩ : ByteArray), (⟨#[67, 111, 110, 110, 101, 99, 116, 105, 111, 110]⟩ : ByteArray), (⟨#[67, 111, 111, 107, 105, 101]⟩ : ByteArray), (⟨#[86, 97, 114, 121]⟩ : ByteArray), (⟨#[65]⟩ : ByteArray), (⟨#[97, 99, 99, 101, 112, 116]⟩ : ByteArray), (⟨#[82, 97, 110, 103, 101]⟩ : ByteArray), (⟨#[67, 97, 99, 104, 101, 45, 67, 111, 110, 116, 114, 111, 108]⟩ : ByteArray), (⟨#[65, 117, 116, 104, 111, 114, 105, 122, 97, 116, 105, 111, 110]⟩ : ByteArray), (⟨#[88, 45, 70, 111, 114, 119, 97, 114, 100, 101, 100, 45, 70, 111, 114]⟩ : ByteArray), (⟨#[75, 101, 101, 112, 45, 65, 108, 105, 118, 101]⟩ : ByteArray)]
def mVals : List ByteArray := [(⟨#[]⟩ : ByteArray), (⟨#[51]⟩ : ByteArray), (⟨#[99, 104, 117, 110, 107, 101, 100]⟩ : ByteArray), (⟨#[99, 108, 111, 115, 101]⟩ : ByteArray), (⟨#[107, 101, 101, 112, 45, 97, 108, 105, 118, 101, 44, 32, 65]⟩ : ByteArray), (⟨#[97, 44, 32, 98]⟩ : ByteArray), (⟨#[110, 111, 45, 115, 116, 111, 114, 101]⟩ : ByteArray), (⟨#[48]⟩ : ByteArray), (⟨#[120]⟩ : ByteArray), (⟨#[65, 99, 99, 101, 112, 116]⟩ : ByteArray), (⟨#[97, 99, 99, 101, 112, 116, 44, 32, 65]⟩ : ByteArray)]
def mMeths : List ByteArray := [(⟨#[71, 69, 84]⟩ : ByteArray), (⟨#[80, 79, 83, 84]⟩ : ByteArray), (⟨#[72, 69, 65, 68]⟩ : ByteArray), (⟨#[80, 85, 84]⟩ : ByteArray), (⟨#[120, 45, 121]⟩ : ByteArray)]
def mTargs : List ByteArray := [(⟨#[47]⟩ : ByteArray), (⟨#[47, 97, 47, 98]⟩ : ByteArray), (⟨#[47, 97, 63, 120, 61, 49]⟩ : ByteArray), (⟨#[42]⟩ : ByteArray), (⟨#[47, 37, 52, 49]⟩ : ByteArray)]
theorem rdOf_mem {l : List ByteArray} {i : Int} (h0 : 0 ≤ i) (h : i < (l.length : Int)) : rdOf ByteArray.empty l i ∈ l := by
 have hl : i.toNat < l.length := by omega
 unfold rdOf
 rw [List.getD_eq_getElem?_getD, List.getElem?_eq_getElem hl]
 exact List.getElem_mem hl
theorem Pick_ok (l : List Int) (hl : l.length ≤ 281474976710656) (hw : ∀ x ∈ l, (Lit.int .u8 x).wf = true) (i n : Nat) (hi : i ≤ 1000) (hn : 0 < n) :
  ∃ r : Int, lockagelaw06_Maker_Pick.f l i n = some (r, ((i + 1 : Nat) : Int)) ∧ 0 ≤ r ∧ r < n := by
 have e1 : wrap64 ((i : Int) + 1) = ((i + 1 : Nat) : Int) := by unfold wrap64; omega
 have e2 : wrap64 (((i + 1 : Nat) : Int) - 1) = (i : Int) := by unfold wrap64; omega
 unfold lockagelaw06_Maker_Pick.f
 rw [e1, e2]
 clear e1 e2
 by_cases h : ((i + 1 : Nat) : Int) > (l.length : Int)
 ·rw [if_pos h]
  exact ⟨0, rfl, by omega, by omega⟩
 ·have hx : rd l (i : Int) = l[i]'(by omega) := by simp [rd, show i < l.length by omega]
  have hb := bounds_u8 (hw (l[i]'(by omega)) (List.getElem_mem _))
  have ex : wrap64 (l[i]'(by omega)) = l[i]'(by omega) := by
   generalize l[i]'(by omega) = v at hb
   unfold wrap64; omega
  rw [if_neg h, if_pos (by omega), if_pos (by omega), if_neg (by omega), hx, ex]
  exact ⟨_, rfl, Int.tmod_nonneg _ hb.1, Int.tmod_lt_of_pos _ (by omega)⟩
def MFs (l : List S37) : Prop := ∀ x ∈ l, x.f0 ∈ mNames ∧ x.f1 ∈ mVals
theorem Head_l0 (l : List Int) (hl : l.length ≤ 281474976710656) (hw : ∀ x ∈ l, (Lit.int .u8 x).wf = true) (m t s : ByteArray) (st mi : Int) (d : Nat) :
  ∀ (i k : Nat) (acc : List S37), d ≤ 6 → acc.length + d ≤ 6 → i + 2 * d ≤ 900 → d + 1 ≤ k → MFs acc →
   ∃ fs j, lockagelaw06_Maker_Head.l0 k (d : Int) l (i : Int) m t st s mi acc = some (m, t, st, s, mi, fs, j) ∧ fs.length ≤ 6 ∧ MFs fs := by
 induction d with
 | zero =>
  intro i k acc hd ha hi hk hm
  obtain ⟨k, rfl⟩ : ∃ j, k = j + 1 := ⟨k - 1, by omega⟩
  unfold lockagelaw06_Maker_Head.l0
  rw [if_neg (by omega)]
  exact ⟨acc, _, rfl, by omega, hm⟩
 | succ d ih =>
  intro i k acc hd ha hi hk hm
  obtain ⟨k, rfl⟩ : ∃ j, k = j + 1 := ⟨k - 1, by omega⟩
  obtain ⟨r1, p1, a1, b1⟩ := Pick_ok l hl hw i 13 (by omega) (by omega)
  obtain ⟨r2, p2, a2, b2⟩ := Pick_ok l hl hw (i + 1) 11 (by omega) (by omega)
  have hm2 : MFs (acc ++ [(⟨rdOf ByteArray.empty mNames r1, rdOf ByteArray.empty mVals r2⟩ : S37)]) := by
   intro x hx
   rcases List.mem_append.1 hx with hx | hx
   ·exact hm x hx
   ·obtain rfl := List.mem_singleton.1 hx
    exact ⟨rdOf_mem a1 b1, rdOf_mem a2 b2⟩
  obtain ⟨fs, j, h1, h2, h3⟩ := ih (i + 2) k _ (by omega) (by simp; omega) (by omega) (by omega) hm2
  refine ⟨fs, j, ?_, h2, h3⟩
  have q1 : lockagelaw06_Maker_Pick.f l (i : Int) 13 = some (r1, ((i + 1 : Nat) : Int)) := p1
  have q2 : lockagelaw06_Maker_Pick.f l ((i + 1 : Nat) : Int) 11 = some (r2, ((i + 2 : Nat) : Int)) := p2
  have e1 : wrap64 (((d + 1 : Nat) : Int) - 1) = (d : Int) := by unfold wrap64; omega
  have c1 : ((d + 1 : Nat) : Int) > 0 := by omega
  have c2 : acc.length < 4398046511104 := by omega
  clear p1 p2 hm2 ih hm hi hk ha hd
  simp only [mNames, mVals] at h1
  unfold lockagelaw06_Maker_Head.l0
  simp only [Option.bind_some, List.length_cons, List.length_nil, Nat.zero_add, Nat.reduceAdd, if_pos c1, q1, q2, if_pos a1, if_pos b1, if_pos a2, if_pos b2, if_pos c2, e1]
  exact h1
theorem Head_j0 (l : List Int) (hl : l.length ≤ 281474976710656) (hw : ∀ x ∈ l, (Lit.int .u8 x).wf = true) (m t s : ByteArray) (st mi : Int) (i k : Nat) (hi : i ≤ 100) (hk : 20 ≤ k) :
  ∃ fs j, lockagelaw06_Maker_Head.j0 k l (i : Int) m t st s mi = some (m, t, st, s, mi, fs, j) ∧ fs.length ≤ 6 ∧ MFs fs := by
 obtain ⟨k, rfl⟩ : ∃ j, k = j + 1 := ⟨k - 1, by omega⟩
 obtain ⟨r, p, a, b⟩ := Pick_ok l hl hw i 7 (by omega) (by omega)
 obtain ⟨d, rfl⟩ := Int.eq_ofNat_of_zero_le a
 obtain ⟨fs, j, h1, h2, h3⟩ := Head_l0 l hl hw m t s st mi d (i + 1) k [] (by omega) (by simp; omega) (by omega) (by omega) (fun x hx => by cases hx)
 refine ⟨fs, j, ?_, h2, h3⟩
 unfold lockagelaw06_Maker_Head.j0
 dsimp only
 have q : lockagelaw06_Maker_Pick.f l (i : Int) 7 = some ((d : Int), ((i + 1 : Nat) : Int)) := p
 rw [q]
 simp only [Option.bind_some]
 exact h1
theorem Made_false (l : List Int) (hl : l.length ≤ 281474976710656) (hw : ∀ x ∈ l, (Lit.int .u8 x).wf = true) :
  ∃ m t mi fs, (∀ k, 20 ≤ k → lockagelaw06_Made.f k l false = some (m, t, 0, ⟨#[]⟩, mi, fs)) ∧ m ∈ mMeths ∧ t ∈ mTargs ∧ (mi = 0 ∨ mi = 1) ∧ fs.length ≤ 6 ∧ MFs fs := by
 obtain ⟨r1, p1, a1, b1⟩ := Pick_ok l hl hw 0 2 (by omega) (by omega)
 obtain ⟨r2, p2, a2, b2⟩ := Pick_ok l hl hw 1 5 (by omega) (by omega)
 obtain ⟨r3, p3, a3, b3⟩ := Pick_ok l hl hw 2 5 (by omega) (by omega)
 obtain ⟨fs, j, h1, h2, h3⟩ := Head_j0 l hl hw (rdOf ByteArray.empty mMeths r2) (rdOf ByteArray.empty mTargs r3) ⟨#[]⟩ 0 (wrap64 (1 - r1)) 3 20 (by omega) (by omega)
 refine ⟨rdOf ByteArray.empty mMeths r2, rdOf ByteArray.empty mTargs r3, wrap64 (1 - r1), fs, fun k hk => at_rounds (lockagelaw06_Made.mono l false) hk ?_, rdOf_mem a2 b2, rdOf_mem a3 b3, ?_, h2, h3⟩
 ·unfold lockagelaw06_Made.f lockagelaw06_Maker_Head.f
  have q1 : lockagelaw06_Maker_Pick.f l 0 2 = some (r1, 1) := p1
  have q2 : lockagelaw06_Maker_Pick.f l 1 5 = some (r2, 2) := p2
  have q3 : lockagelaw06_Maker_Pick.f l 2 5 = some (r3, 3) := p3
  have q4 : lockagelaw06_Maker_Head.j0 20 l 3 (rdOf ByteArray.empty mMeths r2) (rdOf ByteArray.empty mTargs r3) 0 ⟨#[]⟩ (wrap64 (1 - r1)) = some (rdOf ByteArray.empty mMeths r2, rdOf ByteArray.empty mTargs r3, 0, ⟨#[]⟩, wrap64 (1 - r1), fs, j) := h1
  rw [q1]
  simp only [Option.bind_some]
  rw [if_neg (by decide), q2]
  simp only [Option.bind_some]
  simp only [List.length_cons, List.length_nil, Nat.zero_add, Nat.reduceAdd]
  rw [if_pos a2, if_pos b2, q3]
  simp only [Option.bind_some]
  rw [if_pos a3, if_pos b3]
  simp only [mMeths, mTargs] at q4
  rw [q4]
  rfl
 ·have : r1 = 0 ∨ r1 = 1 := by omega
  rcases this with rfl | rfl
  ·exact .inr (by unfold wrap64; omega)
  ·exact .inl (by unfold wrap64; omega)
end Go.Proofs.YtemhokkfefidlaaGreatDoor.P
namespace Go.Proofs.YtemhokkfefidlaaGreatDoor.P
open Go.RowKit Go.Proofs.YtemhokkfefidlaaGreatDoorW.PrintWords Go.Proofs.YtemhokkfefidlaaGreatDoorW.PrintLast Go.Proofs.YtemhokkfefidlaaGreatDoorW.PrintMore
def mStats : List Int := [200, 404, 304, 204, 100, 599, 503]
def mReas : List ByteArray := [(⟨#[79, 75]⟩ : ByteArray), (⟨#[]⟩ : ByteArray), (⟨#[78, 111, 116, 32, 70, 111, 117, 110, 100]⟩ : ByteArray), (⟨#[97, 9, 98]⟩ : ByteArray)]
theorem rd_mem {l : List Int} {i : Int} (h0 : 0 ≤ i) (h : i < (l.length : Int)) : rd l i ∈ l := by
 have hl : i.toNat < l.length := by omega
 unfold rd
 rw [List.getD_eq_getElem?_getD, List.getElem?_eq_getElem hl]
 exact List.getElem_mem hl
theorem Made_true (l : List Int) (hl : l.length ≤ 281474976710656) (hw : ∀ x ∈ l, (Lit.int .u8 x).wf = true) :
  ∃ st s mi fs, (∀ k, 20 ≤ k → lockagelaw06_Made.f k l true = some (⟨#[]⟩, ⟨#[]⟩, st, s, mi, fs)) ∧ st ∈ mStats ∧ s ∈ mReas ∧ (mi = 0 ∨ mi = 1) ∧ fs.length ≤ 6 ∧ MFs fs := by
 obtain ⟨r1, p1, a1, b1⟩ := Pick_ok l hl hw 0 2 (by omega) (by omega)
 obtain ⟨r2, p2, a2, b2⟩ := Pick_ok l hl hw 1 7 (by omega) (by omega)
 obtain ⟨r3, p3, a3, b3⟩ := Pick_ok l hl hw 2 4 (by omega) (by omega)
 obtain ⟨fs, j, h1, h2, h3⟩ := Head_j0 l hl hw ⟨#[]⟩ ⟨#[]⟩ (rdOf ByteArray.empty mReas r3) (rd mStats r2) (wrap64 (1 - r1)) 3 20 (by omega) (by omega)
 refine ⟨rd mStats r2, rdOf ByteArray.empty mReas r3, wrap64 (1 - r1), fs, fun k hk => at_rounds (lockagelaw06_Made.mono l true) hk ?_, rd_mem a2 b2, rdOf_mem a3 b3, ?_, h2, h3⟩
 ·unfold lockagelaw06_Made.f lockagelaw06_Maker_Head.f
  have q1 : lockagelaw06_Maker_Pick.f l 0 2 = some (r1, 1) := p1
  have q2 : lockagelaw06_Maker_Pick.f l 1 7 = some (r2, 2) := p2
  have q3 : lockagelaw06_Maker_Pick.f l 2 4 = some (r3, 3) := p3
  have q4 : lockagelaw06_Maker_Head.j0 20 l 3 ⟨#[]⟩ ⟨#[]⟩ (rd mStats r2) (rdOf ByteArray.empty mReas r3) (wrap64 (1 - r1)) = some (⟨#[]⟩, ⟨#[]⟩, rd mStats r2, rdOf ByteArray.empty mReas r3, wrap64 (1 - r1), fs, j) := h1
  rw [q1]
  simp only [Option.bind_some]
  rw [if_pos trivial, q2]
  simp only [Option.bind_some, List.length_cons, List.length_nil, Nat.zero_add, Nat.reduceAdd]
  rw [if_pos a2, if_pos b2, q3]
  simp only [Option.bind_some]
  rw [if_pos a3, if_pos b3]
  simp only [mStats, mReas] at q4
  rw [q4]
  rfl
 ·have : r1 = 0 ∨ r1 = 1 := by omega
  rcases this with rfl | rfl
  ·exact .inr (by unfold wrap64; omega)
  ·exact .inl (by unfold wrap64; omega)
end Go.Proofs.YtemhokkfefidlaaGreatDoor.P
namespace Go.Proofs.YtemhokkfefidlaaGreatDoor.P
open Go.RowKit Go.Proofs.YtemhokkfefidlaaGreatDoorW.PrintWords Go.Proofs.YtemhokkfefidlaaGreatDoorW.PrintLast Go.Proofs.YtemhokkfefidlaaGreatDoorW.PrintMore
theorem digit16_at (d : Nat) (h : d < 10) : (⟨#[48, 49, 50, 51, 52, 53, 54, 55, 56, 57, 97, 98, 99, 100, 101, 102]⟩ : ByteArray).extract d (d + 1) = ⟨#[UInt8.ofNat (48 + d)]⟩ := by
 have a : ((List.range 10).all fun d => ((⟨#[48, 49, 50, 51, 52, 53, 54, 55, 56, 57, 97, 98, 99, 100, 101, 102]⟩ : ByteArray).extract d (d + 1)).data.toList == [UInt8.ofNat (48 + d)]) = true := by kernel_rfl
 rw [List.all_eq_true] at a
 have := a d (List.mem_range.2 h)
 exact H.ba_ext (by simpa using this)
theorem wrap_m (m : Nat) (h : m < 10) : wrap64 ((m : Int) + 1) = ((m + 1 : Nat) : Int) := by unfold wrap64; omega
theorem wrap_d (m : Nat) (h : m ≤ 9007199254740992) : wrap64 (m : Int) = (m : Int) := by unfold wrap64; omega
theorem RefText_ev : ∀ (n k : Nat), n ≤ 9007199254740992 → 2 * Lib.nDigits n + 2 ≤ k → lockageref03_Text.f k (n : Int) 10 = some ⟨(Lib.decDigits n).toArray⟩ := by
 intro n
 induction n using Nat.strongRecOn with
 | _ n ih =>
  intro k hn hk
  have hd1 : 1 ≤ Lib.nDigits n := by
   rw [Lib.nDigits]; split <;> omega
  obtain ⟨k, rfl⟩ : ∃ j, k = j + 2 := ⟨k - 2, by omega⟩
  have et : Int.tmod (n : Int) 10 = ((n % 10 : Nat) : Int) := rfl
  have ed : Int.tdiv (n : Int) 10 = ((n / 10 : Nat) : Int) := rfl
  have hm : n % 10 < 10 := Nat.mod_lt _ (by decide)
  rw [lockageref03_Text.f]
  have hf : lockageref03_Fits.f (n : Int) = some true := by
   unfold lockageref03_Fits.f
   rw [if_pos (by omega), decide_eq_true (by omega)]
  rw [hf, Option.bind_some, if_pos rfl, if_pos rfl]
  rw [lockageref03_Text.j0, if_neg (by decide), if_neg (by decide), et, wrap_m _ hm, if_pos (by omega), if_pos (by omega), if_pos (by omega), Int.toNat_natCast, Int.toNat_natCast, digit16_at _ hm]
  by_cases h10 : n < 10
  ·rw [if_pos (by omega), Lib.decDigits_one h10, Nat.mod_eq_of_lt h10]
  ·rw [if_neg (by omega), ed]
   have hnd : Lib.nDigits n = Lib.nDigits (n / 10) + 1 := by rw [Lib.nDigits, dif_neg h10]
   rw [wrap_d (n / 10) (by omega), ih (n / 10) (by omega) k (by omega) (by omega)]
   simp only [Option.bind_some]
   have hl : (⟨(Lib.decDigits (n / 10)).toArray⟩ : ByteArray).size ≤ 30 := by
    rw [mk_size, Lib.decDigits_length]
    have := Lib.nDigits_le20 (n / 10) (by omega)
    omega
   have h1 : (⟨#[UInt8.ofNat (48 + n % 10)]⟩ : ByteArray).size = 1 := rfl
   rw [if_pos (by rw [h1]; omega)]
   congr 1
   apply H.ba_ext
   rw [Lib.decDigits.eq_1 n, dif_neg h10]
   simp [ByteArray.data_append]
theorem num_text (n : Int) (h0 : -9223372036854775808 ≤ n) (h1 : n ≤ 9223372036854775807) : num_Text.f n 10 = some (H.text10 n) ∧ (H.text10 n).size ≤ 30 := by
 refine ⟨by unfold num_Text.f; rw [if_pos rfl, if_pos h0, if_pos h1], ?_⟩
 unfold H.text10
 split
 ·rw [mk_size]
  have := Lib.itoa_length_le n h0 h1
  omega
 ·decide
theorem both_text (n : Int) (h0 : -9223372036854775808 ≤ n) (h1 : n ≤ 9223372036854775807) : num_Text.f n 10 = some (H.text10 n) ∧ (H.text10 n).size ≤ 30 ∧ ∀ k, 60 ≤ k → lockageref03_Text.f k n 10 = some (H.text10 n) := by
 refine ⟨(num_text n h0 h1).1, (num_text n h0 h1).2, fun k hk => ?_⟩
 ·unfold H.text10
  split
  ·rename_i h
   obtain ⟨u, rfl⟩ : ∃ u : Nat, n = u := ⟨n.toNat, by omega⟩
   rw [Lib.itoa_nonneg, RefText_ev u k (by omega) (by have := Lib.nDigits_le20 u (by omega); omega)]
  ·rename_i h
   obtain ⟨k, rfl⟩ : ∃ j, k = j + 2 := ⟨k - 2, by omega⟩
   rw [lockageref03_Text.f]
   have hf : lockageref03_Fits.f n = some false := by
    unfold lockageref03_Fits.f
    by_cases hn : n ≥ 0
    ·rw [if_pos hn, decide_eq_false (fun e => h ⟨hn, e⟩)]
    ·rw [if_neg hn]
   rw [hf, Option.bind_some, if_neg (by decide), lockageref03_Text.j0, if_pos rfl]
end Go.Proofs.YtemhokkfefidlaaGreatDoor.P
namespace Go.Proofs.YtemhokkfefidlaaGreatDoor.P
open Go.RowKit Go.Proofs.YtemhokkfefidlaaGreatDoorW.PrintWords Go.Proofs.YtemhokkfefidlaaGreatDoorW.PrintLast Go.Proofs.YtemhokkfefidlaaGreatDoorW.PrintMore
def mkL (l : List UInt8) : ByteArray := ⟨l.toArray⟩
theorem mkL_data (l : List UInt8) : (mkL l).data.toList = l := rfl
theorem mkL_size (l : List UInt8) : (mkL l).size = l.length := mk_size l
theorem mkL_back (x : ByteArray) : mkL x.data.toList = x := H.ba_ext rfl
theorem row_back : ∀ (r : List ByteArray) (l : List (List UInt8)), r.map (·.data.toList) = l → r = l.map mkL
 | [], l, h => by rw [← h]; rfl
 | x :: r, l, h => by
  rw [← h, List.map_cons, List.map_cons, mkL_back]
  exact congrArg _ (row_back r _ rfl)
theorem splitK_hit (sep : List UInt8) (k : Nat) (s : List UInt8) (i : Nat) (h : Lib.index s sep = i) : Lib.splitK sep 0 (k + 1) s = s.take i :: Lib.splitK sep 0 k (s.drop (i + sep.length)) := by
 have e : ((i : Int) == -1) = false := beq_eq_false_iff_ne.mpr (by omega)
 rw [Lib.splitK, h, e, if_neg (by decide), Int.toNat_natCast, Nat.add_zero]
theorem splitK_miss (sep : List UInt8) (k : Nat) (s : List UInt8) (h : Lib.index s sep = -1) : Lib.splitK sep 0 k s = [s] := by
 cases k with
 | zero => rfl
 | succ k => rw [Lib.splitK, h]; rfl
def consH (a : UInt8) : List (List UInt8) → List (List UInt8)
 | [] => [[a]]
 | p :: r => (a :: p) :: r
def linesL : List UInt8 → List (List UInt8)
 | [] => [[]]
 | [b] => [[b]]
 | a :: b :: l => if (a == 13 && b == 10) = true then [] :: linesL l else consH a (linesL (b :: l))
theorem consH_ne (a : UInt8) (l : List (List UInt8)) : consH a l ≠ [] := by cases l <;> simp [consH]
theorem linesL_ne : ∀ l : List UInt8, linesL l ≠ []
 | [] => by simp [linesL]
 | [b] => by simp [linesL]
 | a :: b :: l => by
  rw [linesL]
  split
  ·simp
  ·exact consH_ne _ _
theorem pre2 (a : UInt8) (t : List UInt8) : ([13, 10] : List UInt8).isPrefixOf (a :: t) = true → ∃ l, a = 13 ∧ t = 10 :: l := by
 intro h
 rw [List.isPrefixOf_iff_prefix] at h
 obtain ⟨r, hr⟩ := h
 injection hr with h1 h2
 exact ⟨r, h1.symm, h2.symm⟩
theorem linesL_hit (l : List UInt8) : linesL (13 :: 10 :: l) = [] :: linesL l := by rw [linesL, if_pos (by decide)]
theorem linesL_cons {a : UInt8} {t : List UInt8} (h : ([13, 10] : List UInt8).isPrefixOf (a :: t) = false) : linesL (a :: t) = consH a (linesL t) := by
 match t, h with
 | [], _ => rfl
 | b :: l, h =>
  rw [linesL, if_neg]
  intro e
  rw [Bool.and_eq_true, beq_iff_eq, beq_iff_eq] at e
  obtain ⟨rfl, rfl⟩ := e
  have h2 : ([13, 10] : List UInt8).isPrefixOf (13 :: 10 :: l) = true := by simp [List.isPrefixOf]
  rw [h2] at h
  cases h
theorem index_cons (b : UInt8) (l sub : List UInt8) : Lib.index (b :: l) sub = if sub.isPrefixOf (b :: l) then 0 else if Lib.index l sub == -1 then -1 else Lib.index l sub + 1 := by rw [Lib.index]
theorem splitK_lines : ∀ (n : Nat) (l : List UInt8), l.length ≤ n → Lib.splitK [13, 10] 0 (Lib.count l [13, 10]) l = linesL l
 | _, [], _ => by rw [Lib.count_miss (by decide)]; rfl
 | 0, a :: t, h => by simp at h
 | n + 1, a :: t, h => by
  rw [List.length_cons] at h
  cases hp : ([13, 10] : List UInt8).isPrefixOf (a :: t) with
  | true =>
   obtain ⟨l, rfl, rfl⟩ := pre2 a t hp
   rw [List.length_cons] at h
   have hi : Lib.index (13 :: 10 :: l) [13, 10] = ((0 : Nat) : Int) := by rw [index_cons, hp]; rfl
   rw [Lib.count_hit (by decide) hi, Nat.add_comm 1, splitK_hit _ _ _ 0 hi, linesL_hit]
   show [] :: Lib.splitK [13, 10] 0 (Lib.count l [13, 10]) l = _
   rw [splitK_lines n l (by omega)]
  | false =>
   rw [linesL_cons hp, ← splitK_lines n t (by omega)]
   have hge := Lib.index_ge t [13, 10]
   by_cases ht : Lib.index t [13, 10] = -1
   ·have hs : Lib.index (a :: t) [13, 10] = -1 := by rw [index_cons, hp, ht]; rfl
    rw [splitK_miss _ _ _ hs, splitK_miss _ _ _ ht]
    rfl
   ·obtain ⟨i, hi⟩ : ∃ i : Nat, Lib.index t [13, 10] = i := ⟨(Lib.index t [13, 10]).toNat, by omega⟩
    have hs : Lib.index (a :: t) [13, 10] = ((i + 1 : Nat) : Int) := by
     have e : ((i : Int) == -1) = false := beq_eq_false_iff_ne.mpr (by omega)
     rw [index_cons, hp, hi, e]
     rfl
    rw [Lib.count_hit (by decide) hs, Lib.count_hit (by decide) hi, Nat.add_comm 1, Nat.add_comm 1, splitK_hit _ _ _ _ hs, splitK_hit _ _ _ _ hi]
    show _ = (a :: t.take i) :: _
    rw [List.take_succ_cons, show i + 1 + ([13, 10] : List UInt8).length = (i + ([13, 10] : List UInt8).length) + 1 from by omega, List.drop_succ_cons]
theorem index_one (c : UInt8) : ∀ l : List UInt8, Lib.index l [c] = if c ∈ l then ((upto c l : Nat) : Int) else -1
 | [] => rfl
 | b :: l => by
  rw [index_cons, index_one c l]
  by_cases h : b = c
  ·subst h
   have hp : ([b] : List UInt8).isPrefixOf (b :: l) = true := by simp [List.isPrefixOf]
   rw [hp, if_pos rfl, if_pos (by simp), upto_hit]
   rfl
  ·have hp : ([c] : List UInt8).isPrefixOf (b :: l) = false := by
    have : (c == b) = false := beq_eq_false_iff_ne.mpr (fun e => h e.symm)
    simp [List.isPrefixOf, this]
   rw [hp, if_neg (by decide), upto_miss h]
   by_cases hm : c ∈ l
   ·rw [if_pos hm, if_pos (List.mem_cons_of_mem _ hm)]
    have e : (((upto c l : Nat) : Int) == -1) = false := beq_eq_false_iff_ne.mpr (by omega)
    rw [e]
    rfl
   ·have hm2 : ¬ (c ∈ b :: l) := by
     rw [List.mem_cons]
     rintro (e | e)
     ·exact h e.symm
     ·exact hm e
    rw [if_neg hm, if_neg hm2]
    rfl
def wordsL (l : List UInt8) : List (List UInt8) :=
 if (32 : UInt8) ∈ l then (if (32 : UInt8) ∈ Sp.cutR 32 l then [Sp.cutL 32 l, Sp.cutL 32 (Sp.cutR 32 l), Sp.cutR 32 (Sp.cutR 32 l)] else [Sp.cutL 32 l, Sp.cutR 32 l]) else [l]
theorem splitK_one (k : Nat) (l : List UInt8) : Lib.splitK [32] 0 (k + 1) l = if (32 : UInt8) ∈ l then Sp.cutL 32 l :: Lib.splitK [32] 0 k (Sp.cutR 32 l) else [l] := by
 by_cases h : (32 : UInt8) ∈ l
 ·rw [if_pos h, splitK_hit _ _ _ _ (by rw [index_one, if_pos h]), cutL_upto]
  show _ :: Lib.splitK [32] 0 k (l.drop (upto 32 l + 1)) = _
  rw [cutR_upto _ _ h]
 ·rw [if_neg h, splitK_miss _ _ _ (by rw [index_one, if_neg h])]
theorem splitK_words (l : List UInt8) : Lib.splitK [32] 0 (min 3 (l.length + 1) - 1) l = wordsL l := by
 have h2 : Lib.splitK [32] 0 2 l = wordsL l := by
  unfold wordsL
  rw [splitK_one 1 l, splitK_one 0]
  by_cases h : (32 : UInt8) ∈ l
  ·rw [if_pos h, if_pos h]
   by_cases g : (32 : UInt8) ∈ Sp.cutR 32 l
   ·rw [if_pos g, if_pos g]; rfl
   ·rw [if_neg g, if_neg g]
  ·rw [if_neg h, if_neg h]
 match l, h2 with
 | [], _ => rfl
 | [b], h2 =>
  show Lib.splitK [32] 0 1 [b] = _
  rw [← h2, splitK_one 0, splitK_one 1]
  by_cases h : (32 : UInt8) ∈ [b]
  ·have hb : b = 32 := (List.mem_singleton.1 h).symm
   subst hb
   rfl
  ·rw [if_neg h, if_neg h]
 | a :: b :: l, h2 =>
  have e : min 3 ((a :: b :: l).length + 1) - 1 = 2 := by rw [List.length_cons, List.length_cons]; omega
  rw [e, h2]
def ver3 (a b c : UInt8) : Int × Int := if (isDig a && (b == 46 && isDig c)) = true then (if (a == 49 && c == 48) = true then (0, 0) else if (a == 49 && c == 49) = true then (1, 0) else (0, 24)) else (0, 20)
def verR : List UInt8 → Int × Int
 | [a, b, c] => ver3 a b c
 | _ => (0, 20)
def verL (l : List UInt8) : Int × Int := if Lib.hasPrefix l [72, 84, 84, 80, 47] = true then verR (l.drop 5) else (0, 20)
theorem digits_f (x : ByteArray) (hx : x.size ≤ 9223372036854775806) (k : Nat) (hk : 2 * x.size + 40 ≤ k) : head_digits.f k x = some ((parseS x.data.toList).2 != 1) := by
 unfold head_digits.f
 rw [Parse_ev x hx k hk, Option.bind_some]
theorem digits_one (a : UInt8) : ((parseS [a]).2 != 1) = isDig a := by
 have h : ((List.range 256).all fun n => ((parseS [UInt8.ofNat n]).2 != 1) == isDig (UInt8.ofNat n)) = true := by kernel_rfl
 have := byte_all h a
 rw [byte_back] at this
 simpa using this
theorem digits_all (l : List UInt8) (h : l ≠ []) : ((parseS l).2 != 1) = l.all isDig := by
 unfold parseS
 rw [if_neg h]
 cases l.all isDig with
 | false => rfl
 | true =>
  rw [if_pos rfl]
  unfold outS
  split <;> rfl
theorem bt_mk (l : List UInt8) (i : Nat) (h : i < l.length) : bt (mkL l) (i : Int) = ((l[i]).toNat : Int) := bt_low (x := mkL l) (by rw [mkL_size]; exact h)
theorem version_ev (x : ByteArray) (hx : x.size ≤ 1000000) (k : Nat) (hk : 100 ≤ k) : head_version.f k x = some (verL x.data.toList) := by
 obtain ⟨k, rfl⟩ : ∃ j, k = j + 1 := ⟨k - 1, by omega⟩
 have bad : ∀ (b : ByteArray), head_version.j0 (k + 1) b true = some (0, 20) := fun b => by rw [head_version.j0, if_pos rfl]
 unfold head_version.f strings_CutPrefix.f verL
 rw [Option.bind_some]
 dsimp only
 cases hp : Lib.hasPrefix x.data.toList [72, 84, 84, 80, 47] with
 | false => rw [if_neg (by decide), if_neg (by decide)]; exact bad _
 | true =>
  have et : Lib.trimPrefix x.data.toList [72, 84, 84, 80, 47] = x.data.toList.drop 5 := by unfold Lib.trimPrefix; rw [hp, if_pos rfl]; rfl
  rw [if_pos rfl, if_pos rfl, et]
  show (if ((mkL (x.data.toList.drop 5)).size : Int) = 3 then _ else _) = _
  generalize x.data.toList.drop 5 = r
  match r with
  | [] => rw [if_neg (by decide)]; exact bad _
  | [_] => rw [if_neg (by show ¬ ((1 : Int) = 3); decide)]; exact bad _
  | [_, _] => rw [if_neg (by show ¬ ((2 : Int) = 3); decide)]; exact bad _
  | a :: b :: c :: d :: l =>
   have e : ((mkL (a :: b :: c :: d :: l)).size : Int) ≠ 3 := by rw [mkL_size]; simp only [List.length_cons]; omega
   rw [if_neg e]
   have : ((((mkL (a :: b :: c :: d :: l)).size : Int)) != 3) = true := bne_iff_ne.mpr e
   show head_version.j0 (k + 1) _ ((((mkL (a :: b :: c :: d :: l)).size : Int)) != 3) = _
   rw [this]
   exact bad _
  | [a, b, c] =>
   have s3 : (mkL [a, b, c]).size = 3 := rfl
   have x1 : (mkL [a, b, c]).extract 0 1 = mkL [a] := ext_to _ _
   have x2 : (mkL [a, b, c]).extract 2 (mkL [a, b, c]).size = mkL [c] := ext_from _ _
   have b1 : bt (mkL [a, b, c]) 1 = (b.toNat : Int) := bt_mk [a, b, c] 1 (by simp)
   have b2 : bt (mkL [a, b, c]) 2 = (c.toNat : Int) := bt_mk [a, b, c] 2 (by simp)
   rw [if_pos (by show ((mkL [a, b, c]).size : Int) = 3; rw [s3]; rfl), if_pos (by decide), if_pos (by show (1 : Int) ≤ ((mkL [a, b, c]).size : Int); rw [s3]; decide)]
   show ((head_digits.f (k + 1) ((mkL [a, b, c]).extract 0 1)).bind _) = _
   rw [x1, digits_f _ (by show 1 ≤ _; decide) _ (by show 2 * 1 + 40 ≤ _; omega), Option.bind_some]
   show (if (((parseS [a]).2 != 1) = true) then _ else head_version.j0 (k + 1) (mkL [a, b, c]) (!((parseS [a]).2 != 1))) = some (ver3 a b c)
   rw [digits_one]
   unfold ver3
   cases ha : isDig a with
   | false => rw [if_neg (by decide), Bool.false_and, if_neg (by decide)]; exact bad _
   | true =>
    rw [if_pos rfl, if_pos (by show (1 : Int) < ((mkL [a, b, c]).size : Int); rw [s3]; decide), Bool.true_and]
    show (if bt (mkL [a, b, c]) 1 = 46 then _ else head_version.j0 (k + 1) (mkL [a, b, c]) (bt (mkL [a, b, c]) 1 != 46)) = _
    rw [b1]
    by_cases hb : b = 46
    ·subst hb
     have s46 : ((UInt8.toNat 46 : Nat) : Int) = 46 := rfl
     rw [if_pos s46, if_pos (by show (2 : Int) ≤ (3 : Int); decide)]
     show ((head_digits.f (k + 1) ((mkL [a, 46, c]).extract 2 (mkL [a, 46, c]).size)).bind _) = _
     rw [x2, digits_f _ (by show 1 ≤ _; decide) _ (by show 2 * 1 + 40 ≤ _; omega), Option.bind_some]
     show head_version.j0 (k + 1) (mkL [a, 46, c]) (!((parseS [c]).2 != 1)) = _
     rw [digits_one]
     cases hc : isDig c with
     | false => exact bad _
     | true =>
      have e46 : ((46 : UInt8) == 46 && true) = true := rfl
      rw [head_version.j0, if_neg (by decide), if_pos e46, toList_data]
      show (if [a, 46, c] = ([49, 46, 48] : List UInt8) then _ else _) = _
      by_cases h1 : a = 49
      ·subst h1
       by_cases h2 : c = 48
       ·subst h2
        rw [if_pos rfl, if_pos (by decide), b2]
        rfl
       ·by_cases h3 : c = 49
        ·subst h3
         rw [if_neg (by decide)]
         show (if [49, 46, 49] = ([49, 46, 49] : List UInt8) then _ else _) = _
         rw [if_pos rfl, if_pos (by decide), b2]
         rfl
        ·rw [if_neg (by simp [h2])]
         show (if [49, 46, c] = ([49, 46, 49] : List UInt8) then _ else _) = _
         rw [if_neg (by simp [h3]), if_neg (by simp [h2]), if_neg (by simp [h3])]
      ·rw [if_neg (by simp [h1])]
       show (if [a, 46, c] = ([49, 46, 49] : List UInt8) then _ else _) = _
       rw [if_neg (by simp [h1]), if_neg (by simp [h1]), if_neg (by simp [h1])]
    ·have hn : ¬ ((b.toNat : Int) = 46) := fun e => hb (by
      have e1 : b.toNat = 46 := by omega
      have := byte_back b
      rw [e1] at this
      exact this.symm)
     have e46 : (b == 46) = false := beq_eq_false_iff_ne.mpr hb
     have e47 : (((b.toNat : Int)) != 46) = true := bne_iff_ne.mpr hn
     rw [if_neg hn, e47, e46, Bool.false_and, if_neg (by decide)]
     exact bad _
end Go.Proofs.YtemhokkfefidlaaGreatDoor.P
namespace Go.Proofs.YtemhokkfefidlaaGreatDoor.P
open Go.RowKit Go.Proofs.YtemhokkfefidlaaGreatDoorW.PrintWords Go.Proofs.YtemhokkfefidlaaGreatDoorW.PrintLast Go.Proofs.YtemhokkfefidlaaGreatDoorW.PrintMore
abbrev Hd := ByteArray × ByteArray × Int × ByteArray × Int
abbrev HdF := ByteArray × ByteArray × Int × ByteArray × Int × List S37 × Int
def zeroH : Hd := (⟨#[]⟩, ⟨#[]⟩, 0, ⟨#[]⟩, 0)
def zeros (e : Int) : HdF := (⟨#[]⟩, ⟨#[]⟩, 0, ⟨#[]⟩, 0, [], e)
def reqP (w0 w1 w2 : List UInt8) : Hd × Int :=
 if (Sp.nameB w0 && targetS w1) = true then (if (verL w2).2 = 0 then ((mkL w0, mkL w1, 0, ⟨#[]⟩, (verL w2).1), 0) else (zeroH, (verL w2).2)) else (zeroH, 20)
def ansP (w0 w1 w2 : List UInt8) : Hd × Int :=
 if (decide (w1.length = 3) && (w1.all isDig && reasonS w2)) = true then (if (verL w0).2 = 0 then (if (decide (100 ≤ (parseS w1).1) && decide ((parseS w1).1 ≤ 599)) = true then ((⟨#[]⟩, ⟨#[]⟩, (parseS w1).1, mkL w2, (verL w0).1), 0) else (zeroH, 20)) else (zeroH, (verL w0).2)) else (zeroH, 20)
def firstW (ans : Bool) : List (List UInt8) → Hd × Int
 | [w0, w1, w2] => if ans = true then ansP w0 w1 w2 else reqP w0 w1 w2
 | _ => (zeroH, 20)
def firstP (ans : Bool) (l : List UInt8) : Hd × Int := firstW ans (wordsL l)
def fieldsP : Nat → List (List UInt8) → List S37 × Int
 | _, [] => ([], 0)
 | n, l :: r => if n = 20 then ([], 2) else if (fieldP l).2.2 = 0 then (if (fieldsP (n + 1) r).2 = 0 then (⟨(fieldP l).1, (fieldP l).2.1⟩ :: (fieldsP (n + 1) r).1, 0) else ([], (fieldsP (n + 1) r).2)) else ([], (fieldP l).2.2)
def headW (p : Hd × Int) (q : List S37 × Int) : HdF :=
 if p.2 = 0 then (if q.2 = 0 then (p.1.1, p.1.2.1, p.1.2.2.1, p.1.2.2.2.1, p.1.2.2.2.2, q.1, 0) else zeros q.2) else zeros p.2
def headLs (ans : Bool) : List (List UInt8) → HdF
 | [] => zeros 20
 | x :: r => headW (firstP ans x) (fieldsP 0 r)
def parseH (ans : Bool) (l : List UInt8) : HdF := if l.length > 2000 then zeros 2 else headLs ans (linesL l)
theorem rd_0 (a b c : ByteArray) : rdOf ByteArray.empty [a, b, c] 0 = a := rfl
theorem rd_1 (a b c : ByteArray) : rdOf ByteArray.empty [a, b, c] 1 = b := rfl
theorem rd_2 (a b c : ByteArray) : rdOf ByteArray.empty [a, b, c] 2 = c := rfl
theorem request_ev (w0 w1 w2 : List UInt8) (h0 : w0.length ≤ 10000) (h1 : w1.length ≤ 10000) (h2 : w2.length ≤ 10000) (k : Nat) (hk : 30000 ≤ k) :
  ∃ h fs, head_request.f k [mkL w0, mkL w1, mkL w2] = some (h.1, h.2.1, h.2.2.1, h.2.2.2.1, h.2.2.2.2, fs, (reqP w0 w1 w2).2) ∧ ((reqP w0 w1 w2).2 = 0 → h = (reqP w0 w1 w2).1 ∧ fs = []) := by
 unfold head_request.f reqP
 rw [rd_0, rd_1, rd_2, if_pos (by show (0 : Int) < 3; decide), if_pos (by show (1 : Int) < 3; decide), name_f (by rw [mkL_size]; omega), Option.bind_some, mkL_data]
 cases hn : Sp.nameB w0 with
 | false =>
  rw [if_neg (by decide), Bool.false_and, if_neg (by decide)]
  exact ⟨(_, _, _, _, _), _, rfl, fun h => absurd (show (20 : Int) = 0 from h) (by decide)⟩
 | true =>
  rw [if_pos rfl, target_ev (mkL w1) (by rw [mkL_size]; omega) k (by rw [mkL_size]; omega), Option.bind_some, mkL_data, Bool.true_and]
  cases ht : targetS w1 with
  | false =>
   rw [if_neg (by decide), if_neg (by decide)]
   exact ⟨(_, _, _, _, _), _, rfl, fun h => absurd (show (20 : Int) = 0 from h) (by decide)⟩
  | true =>
   rw [if_pos rfl, if_pos (by show (2 : Int) < 3; decide), version_ev (mkL w2) (by rw [mkL_size]; omega) k (by omega), Option.bind_some, mkL_data, if_pos rfl]
   by_cases hv : (verL w2).2 = 0
   ·rw [if_pos hv, hv]
    exact ⟨(_, _, _, _, _), _, rfl, fun _ => ⟨rfl, rfl⟩⟩
   ·rw [if_neg hv]
    exact ⟨(_, _, _, _, _), _, rfl, fun h => absurd h hv⟩
theorem status_ev (n : Int) : head_status.f n = some (decide (100 ≤ n) && decide (n ≤ 599)) := by
 unfold head_status.f
 by_cases h : n ≥ 100
 ·rw [if_pos h, decide_eq_true (show 100 ≤ n from h), Bool.true_and]
 ·rw [if_neg h, decide_eq_false (show ¬ 100 ≤ n from h), Bool.false_and]
theorem answer_ev (w0 w1 w2 : List UInt8) (h0 : w0.length ≤ 10000) (h1 : w1.length ≤ 10000) (h2 : w2.length ≤ 10000) (k : Nat) (hk : 30000 ≤ k) :
  ∃ h fs, head_answer.f k [mkL w0, mkL w1, mkL w2] = some (h.1, h.2.1, h.2.2.1, h.2.2.2.1, h.2.2.2.2, fs, (ansP w0 w1 w2).2) ∧ ((ansP w0 w1 w2).2 = 0 → h = (ansP w0 w1 w2).1 ∧ fs = []) := by
 obtain ⟨k, rfl⟩ : ∃ j, k = j + 1 := ⟨k - 1, by omega⟩
 have bad : ∀ (x : List ByteArray) (a b : ByteArray) (c : Int) (d : ByteArray) (e : Int), ∃ (h : Hd) (fs : List S37), head_answer.j0 (k + 1) x true a b c d e = some (h.1, h.2.1, h.2.2.1, h.2.2.2.1, h.2.2.2.2, fs, 20) ∧ ((20 : Int) = 0 → h = zeroH ∧ fs = []) := fun x a b c d e => by
  rw [head_answer.j0, if_pos rfl]
  exact ⟨(_, _, _, _, _), _, rfl, fun h => absurd h (by decide)⟩
 unfold head_answer.f ansP
 rw [rd_1, rd_2, if_pos (by show (2 : Int) < 3; decide), if_pos (by show (1 : Int) < 3; decide), mkL_size]
 by_cases h3 : w1.length = 3
 ·rw [if_pos (by omega), decide_eq_true h3, Bool.true_and, digits_f (mkL w1) (by rw [mkL_size]; omega) _ (by rw [mkL_size]; omega), Option.bind_some, mkL_data, digits_all w1 (fun e => by rw [e] at h3; simp at h3)]
  cases hd : w1.all isDig with
  | false => rw [if_neg (by decide), Bool.false_and, if_neg (by decide)]; exact bad _ _ _ _ _ _
  | true =>
   rw [if_pos rfl, reason_ev (mkL w2) (by rw [mkL_size]; omega) _ (by rw [mkL_size]; omega), Option.bind_some, mkL_data, Bool.true_and]
   cases hr : reasonS w2 with
   | false => rw [if_neg (by decide)]; exact bad _ _ _ _ _ _
   | true =>
    have hp : (parseS w1).2 ≠ 1 := by
     have := digits_all w1 (fun e => by rw [e] at h3; simp at h3)
     rw [hd] at this
     simpa using this
    rw [if_pos rfl, head_answer.j0, if_neg (by decide), if_pos (by show (0 : Int) < 3; decide), rd_0, rd_1, version_ev (mkL w0) (by rw [mkL_size]; omega) k (by omega), Option.bind_some, mkL_data]
    by_cases hv : (verL w0).2 = 0
    ·rw [if_pos hv, if_pos hv, if_pos (by show (1 : Int) < 3; decide), Parse_ev (mkL w1) (by rw [mkL_size]; omega) k (by rw [mkL_size]; omega), Option.bind_some, mkL_data, status_ev, Option.bind_some]
     cases hs : (decide (100 ≤ (parseS w1).1) && decide ((parseS w1).1 ≤ 599)) with
     | true =>
      rw [if_pos rfl, if_pos rfl]
      exact ⟨(_, _, _, _, _), _, rfl, fun _ => ⟨rfl, rfl⟩⟩
     | false =>
      rw [if_neg (by decide), if_neg (by decide)]
      exact ⟨(_, _, _, _, _), _, rfl, fun h => absurd (show (20 : Int) = 0 from h) (by decide)⟩
    ·rw [if_neg hv, if_neg hv]
     exact ⟨(_, _, _, _, _), _, rfl, fun h => absurd h hv⟩
 ·have e3 : (((w1.length : Nat) : Int) = 3) = False := by simp; omega
  rw [if_neg (by omega), decide_eq_false h3, Bool.false_and, if_neg (by decide)]
  exact bad _ _ _ _ _ _
theorem pick_ev (ans : Bool) (w0 w1 w2 : List UInt8) (h0 : w0.length ≤ 10000) (h1 : w1.length ≤ 10000) (h2 : w2.length ≤ 10000) (k : Nat) (hk : 30000 ≤ k) :
  ∃ h fs, head_pick.f k ans [mkL w0, mkL w1, mkL w2] = some (h.1, h.2.1, h.2.2.1, h.2.2.2.1, h.2.2.2.2, fs, (firstW ans [w0, w1, w2]).2) ∧ ((firstW ans [w0, w1, w2]).2 = 0 → h = (firstW ans [w0, w1, w2]).1 ∧ fs = []) := by
 have hf : firstW ans [w0, w1, w2] = if ans = true then ansP w0 w1 w2 else reqP w0 w1 w2 := rfl
 rw [hf]
 unfold head_pick.f
 cases ans with
 | true => rw [if_pos rfl, if_pos rfl]; exact answer_ev w0 w1 w2 h0 h1 h2 k hk
 | false => rw [if_neg (by decide), if_neg (by decide)]; exact request_ev w0 w1 w2 h0 h1 h2 k hk
theorem words_len (l : List UInt8) : ∀ w ∈ wordsL l, w.length ≤ l.length := by
 have a1 := Sp.cutL_length 32 l
 have a2 := Sp.cutR_length 32 l
 have a3 := Sp.cutL_length 32 (Sp.cutR 32 l)
 have a4 := Sp.cutR_length 32 (Sp.cutR 32 l)
 intro w hw
 unfold wordsL at hw
 split at hw
 ·split at hw
  ·simp only [List.mem_cons, List.not_mem_nil, or_false] at hw
   rcases hw with rfl | rfl | rfl <;> omega
  ·simp only [List.mem_cons, List.not_mem_nil, or_false] at hw
   rcases hw with rfl | rfl <;> omega
 ·simp only [List.mem_cons, List.not_mem_nil, or_false] at hw
  rw [hw]
  exact Nat.le_refl _
theorem words_three (l : List UInt8) : (wordsL l).length ≤ 3 := by
 unfold wordsL
 split
 ·split <;> simp
 ·simp
theorem consH_len (a : UInt8) (n : Nat) : ∀ ls : List (List UInt8), (∀ x ∈ ls, x.length ≤ n) → ∀ x ∈ consH a ls, x.length ≤ n + 1
 | [], _, x, hx => by
  rw [List.mem_singleton.1 hx]
  simp
 | p :: r, h, x, hx => by
  rcases List.mem_cons.1 hx with rfl | hx
  ·rw [List.length_cons]
   have := h p (by simp)
   omega
  ·have := h x (List.mem_cons_of_mem _ hx)
   omega
theorem lines_len : ∀ l : List UInt8, (∀ x ∈ linesL l, x.length ≤ l.length) ∧ (linesL l).length ≤ l.length + 1
 | [] => ⟨fun x hx => by rw [List.mem_singleton.1 hx]; exact Nat.le_refl _, Nat.le_refl _⟩
 | [b] => ⟨fun x hx => by rw [List.mem_singleton.1 hx]; exact Nat.le_refl _, by simp [linesL]⟩
 | a :: b :: l => by
  have h1 := lines_len l
  have h2 := lines_len (b :: l)
  rw [linesL]
  split
  ·refine ⟨fun x hx => ?_, ?_⟩
   ·rcases List.mem_cons.1 hx with rfl | hx
    ·exact Nat.zero_le _
    ·have := h1.1 x hx
     rw [List.length_cons, List.length_cons]
     omega
   ·rw [List.length_cons, List.length_cons, List.length_cons]
    omega
  ·refine ⟨fun x hx => ?_, ?_⟩
   ·exact consH_len a _ _ h2.1 x hx
   ·cases hl : linesL (b :: l) with
    | nil => exact absurd hl (linesL_ne _)
    | cons p r =>
     have := h2.2
     rw [hl] at this
     show (p :: r).length ≤ _
     rw [List.length_cons] at this ⊢
     rw [List.length_cons, List.length_cons] at *
     omega
theorem rdOf_map (ls : List (List UInt8)) (i : Nat) (h : i < ls.length) : rdOf ByteArray.empty (ls.map mkL) (i : Int) = mkL ls[i] := by
 unfold rdOf
 rw [Int.toNat_natCast, List.getD_eq_getElem?_getD, List.getElem?_map, List.getElem?_eq_getElem h]
 rfl
theorem fields_ev (ls : List (List UInt8)) (hls : ∀ x ∈ ls, x.length ≤ 100000) (hl : ls.length ≤ 100000) (m t : ByteArray) (st : Int) (rs : ByteArray) (mi : Int) (d : Nat) :
  ∀ (i k : Nat) (acc : List S37), ls.length - i = d → i ≤ ls.length → acc.length ≤ 20 → 600000 + d + 2 ≤ k →
   head_Parse.l0 k (ls.map mkL) (ls.length : Int) i m t st rs mi acc = some (if (fieldsP acc.length (ls.drop i)).2 = 0 then (m, t, st, rs, mi, acc ++ (fieldsP acc.length (ls.drop i)).1, 0) else zeros (fieldsP acc.length (ls.drop i)).2) := by
 induction d with
 | zero =>
  intro i k acc hd hi ha hk
  obtain ⟨k, rfl⟩ : ∃ j, k = j + 1 := ⟨k - 1, by omega⟩
  rw [head_Parse.l0, if_neg (by omega), List.drop_of_length_le (by omega)]
  show _ = some (if (0 : Int) = 0 then _ else _)
  rw [if_pos rfl]
  show _ = some (m, t, st, rs, mi, acc ++ [], 0)
  rw [List.append_nil]
 | succ d ih =>
  intro i k acc hd hi ha hk
  obtain ⟨k, rfl⟩ : ∃ j, k = j + 1 := ⟨k - 1, by omega⟩
  have hlt : i < ls.length := by omega
  have hs := hls ls[i] (List.getElem_mem hlt)
  rw [head_Parse.l0, if_pos (by omega), if_pos (by omega), if_pos (by rw [List.length_map]; omega), List.drop_eq_getElem_cons hlt, fieldsP]
  by_cases h20 : acc.length = 20
  ·rw [if_pos (by omega), if_pos h20, if_neg (by decide)]
   rfl
  ·rw [if_neg (by omega), if_neg h20, rdOf_map ls i hlt, FParse_ev (mkL ls[i]) (by rw [mkL_size]; omega) k (by omega), Option.bind_some, mkL_data]
   by_cases he : (fieldP ls[i]).2.2 = 0
   ·rw [if_pos he, if_pos he, if_pos (by omega), wrap_nx i (by omega)]
    have ih2 := ih (i + 1) k (acc ++ [⟨(fieldP ls[i]).1, (fieldP ls[i]).2.1⟩]) (by omega) (by omega) (by rw [List.length_append]; simp; omega) (by omega)
    rw [ih2]
    have ea : (acc ++ [(⟨(fieldP ls[i]).1, (fieldP ls[i]).2.1⟩ : S37)]).length = acc.length + 1 := by simp
    rw [ea]
    by_cases hq : (fieldsP (acc.length + 1) (ls.drop (i + 1))).2 = 0
    ·rw [if_pos hq, if_pos hq, if_pos rfl, List.append_assoc]
     rfl
    ·rw [if_neg hq, if_neg hq, if_neg hq]
   ·rw [if_neg he, if_neg he, if_neg he]
    rfl
theorem Parse_ok (x : ByteArray) (ans : Bool) (k : Nat) (hk : 700000 ≤ k) : head_Parse.f k x ans = some (parseH ans x.data.toList) := by
 have hsz := size_data x
 unfold head_Parse.f parseH
 rw [hsz]
 by_cases h : x.size > 2000
 ·rw [if_pos (by omega), if_pos h]
  rfl
 rw [if_neg (by omega), if_neg h]
 have hlen := lines_len x.data.toList
 have hne := linesL_ne x.data.toList
 have e1 : strings_Split.f x ⟨#[13, 10]⟩ = some ((linesL x.data.toList).map mkL) := by
  unfold strings_Split.f
  rw [if_pos ⟨by omega, by decide⟩]
  refine congrArg some (row_back _ _ ?_)
  rw [Lib.splitB_data]
  show Lib.splitK [13, 10] 0 (Lib.count x.data.toList [13, 10]) x.data.toList = _
  exact splitK_lines x.data.toList.length _ (Nat.le_refl _)
 rw [e1, Option.bind_some]
 rw [hsz] at hlen
 generalize linesL x.data.toList = ls at hlen hne ⊢
 match ls, hlen, hne with
 | [], _, hne => exact absurd rfl hne
 | a :: r, hlen, _ =>
  have ha := hlen.1 a (by simp)
  have e2 : strings_SplitN.f (mkL a) ⟨#[32]⟩ 3 = some ((wordsL a).map mkL) := by
   unfold strings_SplitN.f
   rw [if_pos ⟨by rw [mkL_size]; omega, by decide, by decide, by decide⟩]
   refine congrArg some (row_back _ _ ?_)
   rw [Lib.splitB_data, mkL_size]
   exact splitK_words a
  have hl : (((a :: r).map mkL).length : Int) = ((r.length + 1 : Nat) : Int) := by rw [List.length_map, List.length_cons]
  have hrd : rdOf ByteArray.empty ((a :: r).map mkL) 0 = mkL a := rfl
  rw [if_pos (by rw [hl]; omega), hrd, e2, Option.bind_some]
  have hw := words_len a
  have hw3 := words_three a
  show _ = some (headW (firstW ans (wordsL a)) (fieldsP 0 r))
  generalize wordsL a = ws at hw hw3 ⊢
  match ws, hw, hw3 with
  | [], _, _ => rw [if_pos (by decide)]; rfl
  | [_], _, _ => rw [if_pos (by show (1 : Int) < 3; decide)]; rfl
  | [_, _], _, _ => rw [if_pos (by show (2 : Int) < 3; decide)]; rfl
  | w0 :: w1 :: w2 :: w3 :: l, _, hw3 => simp at hw3
  | [w0, w1, w2], hw, _ =>
   rw [if_neg (by show ¬ ((3 : Int) < 3); decide)]
   obtain ⟨h, fs, p1, p2⟩ := pick_ev ans w0 w1 w2 (by have := hw w0 (by simp); omega) (by have := hw w1 (by simp); omega) (by have := hw w2 (by simp); omega) k (by omega)
   show (head_pick.f k ans [mkL w0, mkL w1, mkL w2]).bind _ = _
   rw [p1, Option.bind_some]
   unfold headW
   by_cases hp : (firstW ans [w0, w1, w2]).2 = 0
   ·obtain ⟨rfl, rfl⟩ := p2 hp
    rw [if_pos hp, if_pos hp, if_pos (by rw [hl]; omega), Option.bind_some]
    have er : ((a :: r).map mkL).drop 1 = r.map mkL := rfl
    rw [er]
    have hfe := fields_ev r (fun x hx => by have := hlen.1 x (List.mem_cons_of_mem _ hx); omega) (by have := hlen.2; rw [List.length_cons] at this; omega) (firstW ans [w0, w1, w2]).1.1 (firstW ans [w0, w1, w2]).1.2.1 (firstW ans [w0, w1, w2]).1.2.2.1 (firstW ans [w0, w1, w2]).1.2.2.2.1 (firstW ans [w0, w1, w2]).1.2.2.2.2 r.length 0 k [] (Nat.sub_zero _) (Nat.zero_le _) (by decide) (by have := hlen.2; rw [List.length_cons] at this; omega)
    rw [List.drop_zero] at hfe
    rw [List.length_map]
    exact hfe
   ·rw [if_neg hp, if_neg hp]
    rfl
end Go.Proofs.YtemhokkfefidlaaGreatDoor.P
namespace Go.Proofs.YtemhokkfefidlaaGreatDoor.P
open Go.RowKit Go.Proofs.YtemhokkfefidlaaGreatDoorW.PrintWords Go.Proofs.YtemhokkfefidlaaGreatDoorW.PrintLast Go.Proofs.YtemhokkfefidlaaGreatDoorW.PrintMore
def rightS (m t : ByteArray) (st : Int) (rs : ByteArray) (mi : Int) (fs : List S37) (ans : Bool) : Bool :=
 if mi < 0 then false else if mi > 1 then false else if fs.length > 20 then false else if fs.any badF = true then false else
 if ans = true then (decide (m.data.toList = []) && (decide (t.data.toList = []) && ((decide (100 ≤ st) && decide (st ≤ 599)) && reasonS rs.data.toList)))
 else (Sp.nameB m.data.toList && (targetS t.data.toList && (decide (st = 0) && decide (rs.data.toList = []))))
theorem Right_ev (m t : ByteArray) (st : Int) (rs : ByteArray) (mi : Int) (fs : List S37) (ans : Bool) (hm : m.size ≤ 1000000000000) (ht : t.size ≤ 1000000000000) (hr : rs.size ≤ 1000000000000) (hf : smallF fs = true) (k : Nat) (hk : 2 * m.size + 2 * t.size + 2 * rs.size + 10 ≤ k) :
  head_Right.f k m t st rs mi fs ans = some (rightS m t st rs mi fs ans) := by
 unfold head_Right.f rightS
 rw [if_pos hf]
 by_cases h1 : mi < 0
 ·rw [if_pos h1, if_pos h1]
 rw [if_neg h1, if_neg h1]
 by_cases h2 : mi > 1
 ·rw [if_pos h2, if_pos h2]
 rw [if_neg h2, if_neg h2]
 by_cases h3 : fs.length > 20
 ·rw [if_pos (by omega), if_pos h3]
 rw [if_neg (by omega), if_neg h3]
 by_cases h4 : fs.any badF = true
 ·rw [if_pos h4, if_pos h4]
 rw [if_neg h4, if_neg h4]
 cases ans with
 | true =>
  rw [if_pos rfl, if_pos rfl, if_pos (by omega), toList_data, ByteArray.data_append, Array.toList_append]
  by_cases h5 : m.data.toList = []
  ·by_cases h6 : t.data.toList = []
   ·rw [if_pos (by rw [h5, h6]; rfl), status_ev, Option.bind_some, decide_eq_true h5, decide_eq_true h6, Bool.true_and, Bool.true_and]
    cases (decide (100 ≤ st) && decide (st ≤ 599)) with
    | true => rw [if_pos rfl, reason_ev rs (by omega) k (by omega), Bool.true_and]
    | false => rw [if_neg (by decide), Bool.false_and]
   ·rw [if_neg (fun e => h6 (List.append_eq_nil_iff.1 e).2), decide_eq_false h6, Bool.false_and, Bool.and_false]
  ·rw [if_neg (fun e => h5 (List.append_eq_nil_iff.1 e).1), decide_eq_false h5, Bool.false_and]
 | false =>
  have hft : ¬ ((false : Bool) = true) := by decide
  rw [if_neg hft, if_neg hft, name_f (by omega), Option.bind_some]
  cases Sp.nameB m.data.toList with
  | false => rw [if_neg (by decide), Bool.false_and]
  | true =>
   rw [if_pos rfl, target_ev t (by omega) k (by omega), Option.bind_some, Bool.true_and]
   cases targetS t.data.toList with
   | false => rw [if_neg (by decide), Bool.false_and]
   | true =>
    rw [if_pos rfl, Bool.true_and]
    by_cases h5 : st = 0
    ·have e6 : (rs.data.toList == []) = decide (rs.data.toList = []) := by cases rs.data.toList <;> rfl
     rw [if_pos h5, decide_eq_true h5, Bool.true_and, toList_data, e6]
    ·rw [if_neg h5, decide_eq_false h5, Bool.false_and]
def decL (n : Int) : List UInt8 := (H.text10 n).data.toList
def http1 : List UInt8 := [72, 84, 84, 80, 47, 49, 46]
def lineS (ans : Bool) (m t : List UInt8) (st : Int) (rs : List UInt8) (mi : Int) : List UInt8 :=
 if ans = true then (http1 ++ decL mi) ++ 32 :: (decL st ++ 32 :: rs) else m ++ 32 :: (t ++ 32 :: (http1 ++ decL mi))
def fldS (f : S37) : List UInt8 := f.f0.data.toList ++ 58 :: 32 :: f.f1.data.toList
def bodyS (ans : Bool) (m t : ByteArray) (st : Int) (rs : ByteArray) (mi : Int) (fs : List S37) : List UInt8 :=
 Lib.join (lineS ans m.data.toList t.data.toList st rs.data.toList mi :: fs.map fldS) [13, 10]
theorem text_f (n : Int) (h0 : 0 ≤ n) (h1 : n ≤ 1000) : num_Text.f n 10 = some (H.text10 n) := by
 unfold num_Text.f
 rw [if_pos rfl, if_pos (by omega), if_pos (by omega)]
theorem decL_small : ∀ n : Int, 0 ≤ n → n ≤ 600 → (decL n).length ≤ 3 := by
 have a : ((List.range 601).all fun n => decide ((decL (n : Int)).length ≤ 3)) = true := by kernel_rfl
 intro n h0 h1
 rw [List.all_eq_true] at a
 have := a n.toNat (List.mem_range.2 (by omega))
 rw [Int.toNat_of_nonneg h0] at this
 simpa using this
theorem joinB_mk (ls : List (List UInt8)) (sep : List UInt8) : joinB (ls.map mkL) (mkL sep) = mkL (Lib.join ls sep) := by
 unfold joinB
 rw [List.map_map, mkL_data]
 have : ((fun x : ByteArray => x.data.toList) ∘ mkL) = id := rfl
 rw [this, List.map_id]
 rfl
theorem lens_fs (B : Nat) : ∀ fs : List S37, (∀ f ∈ fs, f.f0.size ≤ B ∧ f.f1.size ≤ B) → Lib.lens (fs.map fldS) ≤ fs.length * (2 * B + 2)
 | [], _ => by simp [Lib.lens]
 | f :: fs, h => by
  have h1 := h f (by simp)
  have h2 := lens_fs B fs fun x hx => h x (List.mem_cons_of_mem _ hx)
  have e : Lib.lens ((f :: fs).map fldS) = (fldS f).length + Lib.lens (fs.map fldS) := by simp [Lib.lens]
  have e2 : (fldS f).length = f.f0.size + f.f1.size + 2 := by
   unfold fldS
   rw [List.length_append, List.length_cons, List.length_cons, size_data, size_data]
   omega
  rw [e, e2, List.length_cons, Nat.succ_mul]
  omega
theorem join_len (x : List UInt8) (r : List (List UInt8)) (sep : List UInt8) : (Lib.join (x :: r) sep).length = x.length + (sep.length * r.length + Lib.lens r) := by
 rw [Lib.join_cons, List.length_append, Lib.joinTail_length]
theorem Print_l0 (fs : List S37) (hs : ∀ f ∈ fs, f.f0.size ≤ 100000 ∧ f.f1.size ≤ 100000) (hl : fs.length ≤ 20) (x : List UInt8) (hx : x.length ≤ 1000000) (d : Nat) :
  ∀ (i k : Nat), fs.length - i = d → i ≤ fs.length → d + 1 ≤ k →
   head_Print.l0 k ((x :: (fs.take i).map fldS).map mkL) fs (fs.length : Int) i = some (if (Lib.join (x :: fs.map fldS) [13, 10]).length > 2000 then (⟨#[]⟩, 2) else (mkL (Lib.join (x :: fs.map fldS) [13, 10] ++ [13, 10, 13, 10]), 0)) := by
 induction d with
 | zero =>
  intro i k hd hi hk
  obtain ⟨k, rfl⟩ : ∃ j, k = j + 1 := ⟨k - 1, by omega⟩
  have e : strings_Join.f ((x :: (fs.take i).map fldS).map mkL) ⟨#[13, 10]⟩ = some (mkL (Lib.join (x :: fs.map fldS) [13, 10])) := by
   rw [List.take_of_length_le (by omega)]
   have h1 := joinB_mk (x :: fs.map fldS) [13, 10]
   have h2 := lens_fs 100000 fs hs
   have h3 := join_len x (fs.map fldS) [13, 10]
   have h4 : fs.length * (2 * 100000 + 2) ≤ 20 * (2 * 100000 + 2) := Nat.mul_le_mul_right _ hl
   unfold strings_Join.f
   rw [if_pos]
   ·exact congrArg some h1
   ·refine ⟨by rw [List.length_map, List.length_cons, List.length_map]; omega, ?_⟩
    show (joinB ((x :: fs.map fldS).map mkL) (mkL [13, 10])).size ≤ _
    rw [h1, mkL_size, h3, List.length_map]
    show x.length + (2 * fs.length + _) ≤ _
    omega
  rw [head_Print.l0, if_neg (by omega), e, Option.bind_some, mkL_size]
  by_cases h : (Lib.join (x :: fs.map fldS) [13, 10]).length > 2000
  ·rw [if_pos (by omega), if_pos h]
  ·have e2 : (mkL (Lib.join (x :: fs.map fldS) [13, 10]) ++ (⟨#[13, 10]⟩ : ByteArray)).size = (Lib.join (x :: fs.map fldS) [13, 10]).length + 2 := by rw [ByteArray.size_append, mkL_size]; rfl
   rw [if_neg (by omega), if_neg h, if_pos (by omega), if_pos (by omega)]
   refine congrArg some (congrArg (·, (0 : Int)) (H.ba_ext ?_))
   rw [ByteArray.data_append, ByteArray.data_append, Array.toList_append, Array.toList_append, mkL_data, mkL_data, List.append_assoc]
   rfl
 | succ d ih =>
  intro i k hd hi hk
  obtain ⟨k, rfl⟩ : ∃ j, k = j + 1 := ⟨k - 1, by omega⟩
  have hlt : i < fs.length := by omega
  have hrd : rd_T37 fs (i : Int) = fs[i] := by simp [rd_T37, hlt]
  have h1 := hs fs[i] (List.getElem_mem hlt)
  have s2 : (fs[i].f0 ++ (⟨#[58, 32]⟩ : ByteArray)).size = fs[i].f0.size + 2 := by rw [ByteArray.size_append]; rfl
  have hlen : ((x :: (fs.take i).map fldS).map mkL).length = i + 1 := by rw [List.length_map, List.length_cons, List.length_map, List.length_take]; omega
  have he : (fs[i].f0 ++ (⟨#[58, 32]⟩ : ByteArray)) ++ fs[i].f1 = mkL (fldS fs[i]) := H.ba_ext (by
   rw [ByteArray.data_append, ByteArray.data_append, Array.toList_append, Array.toList_append, mkL_data]
   unfold fldS
   rw [List.append_assoc]
   rfl)
  rw [head_Print.l0, if_pos (by omega), if_pos (by omega), if_pos (by omega), hrd, if_pos (by omega), if_pos (by omega), if_pos (by rw [hlen]; omega), he, wrap_nx i (by omega)]
  have ih2 := ih (i + 1) k (by omega) (by omega) (by omega)
  have et : (x :: (fs.take (i + 1)).map fldS).map mkL = (x :: (fs.take i).map fldS).map mkL ++ [mkL (fldS fs[i])] := by
   rw [List.take_succ_eq_append_getElem hlt, List.map_append, List.map_cons, List.map_cons, List.map_append]
   rfl
  rw [et] at ih2
  exact ih2
theorem Print_ev (m t : ByteArray) (st : Int) (rs : ByteArray) (mi : Int) (fs : List S37) (ans : Bool) (hm : m.size ≤ 100000) (ht : t.size ≤ 100000) (hr : rs.size ≤ 100000) (hs : ∀ f ∈ fs, f.f0.size ≤ 100000 ∧ f.f1.size ≤ 100000) (k : Nat) (hk : 700000 ≤ k) :
  head_Print.f k m t st rs mi fs ans = some (if rightS m t st rs mi fs ans = true then (if (bodyS ans m t st rs mi fs).length > 2000 then (⟨#[]⟩, 2) else (mkL (bodyS ans m t st rs mi fs ++ [13, 10, 13, 10]), 0)) else (⟨#[]⟩, 1)) := by
 have hf : smallF fs = true := by
  unfold smallF
  rw [List.all_eq_true]
  intro x hx
  have := hs x hx
  simp only [Bool.and_eq_true, decide_eq_true_eq]
  omega
 unfold head_Print.f
 rw [Right_ev m t st rs mi fs ans (by omega) (by omega) (by omega) hf k (by omega), Option.bind_some]
 cases hR : rightS m t st rs mi fs ans with
 | false => rw [if_neg (by decide), if_neg (by decide)]
 | true =>
  obtain ⟨k, rfl⟩ : ∃ j, k = j + 1 := ⟨k - 1, by omega⟩
  unfold rightS at hR
  split at hR
  ·cases hR
  split at hR
  ·cases hR
  split at hR
  ·cases hR
  split at hR
  ·cases hR
  rename_i g1 g2 g3 g4
  have hmi := decL_small mi (by omega) (by omega)
  have ht10 : (H.text10 mi).size ≤ 3 := by rw [← size_data]; exact hmi
  rw [if_pos rfl, if_pos rfl, text_f mi (by omega) (by omega), Option.bind_some, if_pos (by omega)]
  have hj : ∀ (a b c : List UInt8), a.length + b.length + c.length ≤ 300000 → head_Print.j0 (k + 1) [mkL a, mkL b, mkL c] m t st rs mi fs = some (if (Lib.join ((a ++ 32 :: (b ++ 32 :: c)) :: fs.map fldS) [13, 10]).length > 2000 then (⟨#[]⟩, 2) else (mkL (Lib.join ((a ++ 32 :: (b ++ 32 :: c)) :: fs.map fldS) [13, 10] ++ [13, 10, 13, 10]), 0)) := by
   intro a b c hl
   have ej : Lib.join [a, b, c] [32] = a ++ 32 :: (b ++ 32 :: c) := by rw [Lib.join_cons]; simp [Lib.joinTail]
   have e : strings_Join.f [mkL a, mkL b, mkL c] ⟨#[32]⟩ = some (mkL (a ++ 32 :: (b ++ 32 :: c))) := by
    have h1 := joinB_mk [a, b, c] [32]
    rw [ej] at h1
    unfold strings_Join.f
    rw [if_pos]
    ·exact congrArg some h1
    ·refine ⟨by show 3 ≤ _; omega, ?_⟩
     show (joinB ([a, b, c].map mkL) (mkL [32])).size ≤ _
     rw [h1, mkL_size]
     simp only [List.length_append, List.length_cons]
     omega
   rw [head_Print.j0, e, Option.bind_some]
   have := Print_l0 fs hs (by omega) (a ++ 32 :: (b ++ 32 :: c)) (by simp only [List.length_append, List.length_cons]; omega) fs.length 0 k (Nat.sub_zero _) (Nat.zero_le _) (by omega)
   exact this
  have ev : (⟨#[72, 84, 84, 80, 47, 49, 46]⟩ : ByteArray) ++ H.text10 mi = mkL (http1 ++ decL mi) := H.ba_ext (by rw [ByteArray.data_append, Array.toList_append, mkL_data]; rfl)
  have hv : (http1 ++ decL mi).length ≤ 10 := by rw [List.length_append]; show 7 + _ ≤ _; omega
  unfold bodyS lineS
  cases ans with
  | true =>
   rw [if_pos rfl] at hR
   simp only [Bool.and_eq_true, decide_eq_true_eq] at hR
   have hst := decL_small st (by omega) (by omega)
   rw [if_pos rfl, text_f st (by omega) (by omega), Option.bind_some, ev, if_pos rfl]
   have := hj (http1 ++ decL mi) (decL st) rs.data.toList (by rw [size_data]; omega)
   have e1 : mkL (decL st) = H.text10 st := mkL_back _
   rw [e1, mkL_back] at this
   exact this
  | false =>
   have hft : ¬ ((false : Bool) = true) := by decide
   rw [if_neg hft, ev, if_neg hft]
   have := hj m.data.toList t.data.toList (http1 ++ decL mi) (by rw [size_data, size_data]; omega)
   rw [mkL_back, mkL_back] at this
   exact this
end Go.Proofs.YtemhokkfefidlaaGreatDoor.P
namespace Go.Proofs.YtemhokkfefidlaaGreatDoor.P
open Go.RowKit Go.Proofs.YtemhokkfefidlaaGreatDoorW.PrintWords Go.Proofs.YtemhokkfefidlaaGreatDoorW.PrintLast Go.Proofs.YtemhokkfefidlaaGreatDoorW.PrintMore
theorem nameC_not {c : UInt8} (h : Sp.nameC c = true) : c ≠ 13 ∧ c ≠ 32 ∧ c ≠ 58 := by
 have a : ((List.range 256).all fun n => !Sp.nameC (UInt8.ofNat n) || (decide (UInt8.ofNat n ≠ 13) && (decide (UInt8.ofNat n ≠ 32) && decide (UInt8.ofNat n ≠ 58)))) = true := by kernel_rfl
 have := byte_all a c
 rw [byte_back, h] at this
 simpa using this
theorem targC_not {c : UInt8} (h : targC c = true) : c ≠ 13 ∧ c ≠ 32 := by
 have a : ((List.range 256).all fun n => !targC (UInt8.ofNat n) || (decide (UInt8.ofNat n ≠ 13) && decide (UInt8.ofNat n ≠ 32))) = true := by kernel_rfl
 have := byte_all a c
 rw [byte_back, h] at this
 simpa using this
theorem valC_not {c : UInt8} (h : Sp.valC c = true) : c ≠ 13 := by
 have a : ((List.range 256).all fun n => !Sp.valC (UInt8.ofNat n) || decide (UInt8.ofNat n ≠ 13)) = true := by kernel_rfl
 have := byte_all a c
 rw [byte_back, h] at this
 simpa using this
theorem name_not {l : List UInt8} (h : Sp.nameB l = true) : (∀ c ∈ l, c ≠ 13 ∧ c ≠ 32 ∧ c ≠ 58) ∧ l.length ≤ 40 := by
 unfold Sp.nameB Sp.allB at h
 simp only [Bool.and_eq_true, List.all_eq_true, decide_eq_true_eq] at h
 exact ⟨fun c hc => nameC_not (h.2.2 c hc), h.2.1⟩
theorem targ_not {l : List UInt8} (h : targetS l = true) : (∀ c ∈ l, c ≠ 13 ∧ c ≠ 32) ∧ l.length ≤ 200 := by
 unfold targetS at h
 simp only [Bool.and_eq_true, List.all_eq_true, decide_eq_true_eq] at h
 exact ⟨fun c hc => targC_not (h.2.2 c hc), h.2.1⟩
theorem reason_not {l : List UInt8} (h : reasonS l = true) : (∀ c ∈ l, c ≠ 13) ∧ l.length ≤ 200 := by
 unfold reasonS at h
 simp only [Bool.and_eq_true, List.all_eq_true, decide_eq_true_eq] at h
 exact ⟨fun c hc => valC_not (h.2 c hc), h.1⟩
theorem val_not {l : List UInt8} (h : Sp.valB l = true) : (∀ c ∈ l, c ≠ 13) ∧ l.length ≤ 200 ∧ Sp.trim l = l := by
 unfold Sp.valB Sp.allB at h
 simp only [Bool.and_eq_true, List.all_eq_true, decide_eq_true_eq, beq_iff_eq] at h
 exact ⟨fun c hc => valC_not (h.2.2 c hc), h.1, h.2.1⟩
theorem cut_at (c : UInt8) : ∀ (a r : List UInt8), (∀ x ∈ a, x ≠ c) → Sp.cutL c (a ++ c :: r) = a ∧ Sp.cutR c (a ++ c :: r) = r := by
 intro a r h
 have hm : c ∈ a ++ c :: r := by simp
 have hu : upto c (a ++ c :: r) = a.length := by
  induction a with
  | nil => exact upto_hit c r
  | cons x a ih =>
   rw [List.cons_append, upto_miss (h x (by simp)), ih (fun y hy => h y (List.mem_cons_of_mem _ hy)) (by simp)]
   rfl
 rw [← cutL_upto, ← cutR_upto _ _ hm, hu]
 constructor
 ·rw [List.take_left']; rfl
 ·rw [← List.drop_drop, List.drop_left' rfl]
  rfl
theorem words_at (a b c : List UInt8) (ha : ∀ x ∈ a, x ≠ 32) (hb : ∀ x ∈ b, x ≠ 32) : wordsL (a ++ 32 :: (b ++ 32 :: c)) = [a, b, c] := by
 obtain ⟨p1, p2⟩ := cut_at 32 a (b ++ 32 :: c) ha
 obtain ⟨q1, q2⟩ := cut_at 32 b c hb
 unfold wordsL
 rw [if_pos (by simp), p1, p2, if_pos (by simp), q1, q2]
theorem ver_dec (mi : Int) (h0 : ¬ mi < 0) (h1 : ¬ mi > 1) : verL (http1 ++ decL mi) = (mi, 0) ∧ (∀ c ∈ http1 ++ decL mi, c ≠ 13 ∧ c ≠ 32) ∧ (http1 ++ decL mi).length = 8 := by
 have : mi = 0 ∨ mi = 1 := by omega
 have a : ((List.range 2).all fun n => (verL (http1 ++ decL (n : Int)) == ((n : Int), 0)) && (((http1 ++ decL (n : Int)).all fun c => decide (c ≠ 13 ∧ c ≠ 32)) && decide ((http1 ++ decL (n : Int)).length = 8))) = true := by kernel_rfl
 rw [List.all_eq_true] at a
 have b := a mi.toNat (List.mem_range.2 (by omega))
 rw [Int.toNat_of_nonneg (by omega)] at b
 simp only [Bool.and_eq_true, beq_iff_eq, List.all_eq_true, decide_eq_true_eq] at b
 exact ⟨b.1, b.2.1, b.2.2⟩
theorem st_dec (st : Int) (h0 : 100 ≤ st) (h1 : st ≤ 599) : parseS (decL st) = (st, 0) ∧ (decL st).all isDig = true ∧ (decL st).length = 3 ∧ (∀ c ∈ decL st, c ≠ 13 ∧ c ≠ 32) := by
 have a : ((List.range 500).all fun n => (parseS (decL ((n + 100 : Nat) : Int)) == (((n + 100 : Nat) : Int), 0)) && ((decL ((n + 100 : Nat) : Int)).all isDig && (decide ((decL ((n + 100 : Nat) : Int)).length = 3) && ((decL ((n + 100 : Nat) : Int)).all fun c => decide (c ≠ 13 ∧ c ≠ 32))))) = true := by kernel_rfl
 rw [List.all_eq_true] at a
 have b := a (st.toNat - 100) (List.mem_range.2 (by omega))
 rw [show ((st.toNat - 100 + 100 : Nat) : Int) = st by omega] at b
 simp only [Bool.and_eq_true, beq_iff_eq, decide_eq_true_eq] at b
 refine ⟨b.1, b.2.1, b.2.2.1, fun c hc => ?_⟩
 have := List.all_eq_true.1 b.2.2.2 c hc
 simpa using this
theorem fld_parse (f : S37) (h : badF f = false) : fieldP (fldS f) = (f.f0, f.f1, 0) ∧ (∀ c ∈ fldS f, c ≠ 13) ∧ f.f0.size ≤ 40 ∧ f.f1.size ≤ 200 := by
 unfold badF at h
 rw [Bool.or_eq_false_iff] at h
 have hn : Sp.nameB f.f0.data.toList = true := by simpa using h.1
 have hv : Sp.valB f.f1.data.toList = true := by simpa using h.2
 obtain ⟨n1, n2⟩ := name_not hn
 obtain ⟨v1, v2, v3⟩ := val_not hv
 obtain ⟨c1, c2⟩ := cut_at 58 f.f0.data.toList (32 :: f.f1.data.toList) (fun x hx => (n1 x hx).2.2)
 have ht : Sp.trim (32 :: f.f1.data.toList) = f.f1.data.toList := by rw [Sp.trim_blank (by decide), v3]
 refine ⟨?_, ?_, by rw [← size_data]; exact n2, by rw [← size_data]; exact v2⟩
 ·unfold fieldP fldS
  have hc : Sp.cutIs 58 (f.f0.data.toList ++ 58 :: 32 :: f.f1.data.toList) = true := by unfold Sp.cutIs; rw [List.contains_iff_mem]; simp
  rw [c1, c2, ht, hc, hn, hv, if_pos (by decide)]
 ·intro c hc
  unfold fldS at hc
  rw [List.mem_append, List.mem_cons, List.mem_cons] at hc
  rcases hc with hc | rfl | rfl | hc
  ·exact (n1 c hc).1
  ·decide
  ·decide
  ·exact v1 c hc
theorem right_parts {m t : ByteArray} {st : Int} {rs : ByteArray} {mi : Int} {fs : List S37} {ans : Bool} (h : rightS m t st rs mi fs ans = true) :
  ¬ mi < 0 ∧ ¬ mi > 1 ∧ fs.length ≤ 20 ∧ fs.any badF = false ∧ (if ans = true then m.data.toList = [] ∧ t.data.toList = [] ∧ 100 ≤ st ∧ st ≤ 599 ∧ reasonS rs.data.toList = true else Sp.nameB m.data.toList = true ∧ targetS t.data.toList = true ∧ st = 0 ∧ rs.data.toList = []) := by
 unfold rightS at h
 split at h
 ·cases h
 split at h
 ·cases h
 split at h
 ·cases h
 split at h
 ·cases h
 rename_i g1 g2 g3 g4
 refine ⟨g1, g2, by omega, by simpa using g4, ?_⟩
 cases ans with
 | true =>
  rw [if_pos rfl] at h ⊢
  simp only [Bool.and_eq_true, decide_eq_true_eq] at h
  exact ⟨h.1, h.2.1, h.2.2.1.1, h.2.2.1.2, h.2.2.2⟩
 | false =>
  have hft : ¬ ((false : Bool) = true) := by decide
  rw [if_neg hft] at h ⊢
  simp only [Bool.and_eq_true, decide_eq_true_eq] at h
  exact ⟨h.1, h.2.1, h.2.2.1, h.2.2.2⟩
theorem empty_data {x : ByteArray} (h : x.data.toList = []) : x = ⟨#[]⟩ := H.ba_ext (by rw [h])
theorem first_back (m t : ByteArray) (st : Int) (rs : ByteArray) (mi : Int) (fs : List S37) (ans : Bool) (h : rightS m t st rs mi fs ans = true) :
  firstP ans (lineS ans m.data.toList t.data.toList st rs.data.toList mi) = ((m, t, st, rs, mi), 0) ∧ (∀ c ∈ lineS ans m.data.toList t.data.toList st rs.data.toList mi, c ≠ 13) ∧ (lineS ans m.data.toList t.data.toList st rs.data.toList mi).length ≤ 300 := by
 obtain ⟨g1, g2, g3, g4, g5⟩ := right_parts h
 obtain ⟨v1, v2, v3⟩ := ver_dec mi g1 g2
 unfold firstP lineS
 cases ans with
 | true =>
  rw [if_pos rfl] at g5
  obtain ⟨e1, e2, s1, s2, hr⟩ := g5
  obtain ⟨p1, p2, p3, p4⟩ := st_dec st s1 s2
  obtain ⟨r1, r2⟩ := reason_not hr
  rw [if_pos rfl, words_at _ _ _ (fun x hx => (v2 x hx).2) (fun x hx => (p4 x hx).2)]
  refine ⟨?_, ?_, ?_⟩
  ·show ansP _ _ _ = _
   unfold ansP
   rw [p3, p2, hr, if_pos (by decide), v1, if_pos rfl, p1, if_pos (by simp; omega), mkL_back, empty_data e1, empty_data e2]
  ·intro c hc
   rcases List.mem_append.1 hc with hc | hc
   ·exact (v2 c hc).1
   rcases List.mem_cons.1 hc with rfl | hc
   ·decide
   rcases List.mem_append.1 hc with hc | hc
   ·exact (p4 c hc).1
   rcases List.mem_cons.1 hc with rfl | hc
   ·decide
   ·exact r1 c hc
  ·simp only [List.length_append, List.length_cons] at v3 ⊢
   omega
 | false =>
  have hft : ¬ ((false : Bool) = true) := by decide
  rw [if_neg hft] at g5
  obtain ⟨hn, ht, rfl, hr⟩ := g5
  obtain ⟨n1, n2⟩ := name_not hn
  obtain ⟨t1, t2⟩ := targ_not ht
  rw [if_neg hft, words_at _ _ _ (fun x hx => (n1 x hx).2.1) (fun x hx => (t1 x hx).2)]
  refine ⟨?_, ?_, ?_⟩
  ·show reqP _ _ _ = _
   unfold reqP
   rw [hn, ht, if_pos (by decide), v1, if_pos rfl, mkL_back, mkL_back, empty_data hr]
  ·intro c hc
   rw [List.mem_append, List.mem_cons, List.mem_append, List.mem_cons] at hc
   rcases hc with hc | rfl | hc | rfl | hc
   ·exact (n1 c hc).1
   ·decide
   ·exact (t1 c hc).1
   ·decide
   ·exact (v2 c hc).1
  ·simp only [List.length_append, List.length_cons] at v3 ⊢
   omega
end Go.Proofs.YtemhokkfefidlaaGreatDoor.P
namespace Go.Proofs.YtemhokkfefidlaaGreatDoor.P
open Go.RowKit Go.Proofs.YtemhokkfefidlaaGreatDoorW.PrintWords Go.Proofs.YtemhokkfefidlaaGreatDoorW.PrintLast Go.Proofs.YtemhokkfefidlaaGreatDoorW.PrintMore
theorem ver_ok (l : List UInt8) (h : (verL l).2 = 0) : (verL l).1 = 0 ∨ (verL l).1 = 1 := by
 unfold verL at h ⊢
 split at h
 ·rename_i hp
  rw [if_pos hp]
  generalize l.drop 5 = r at h ⊢
  match r, h with
  | [], h => exact absurd (show (20 : Int) = 0 from h) (by decide)
  | [_], h => exact absurd (show (20 : Int) = 0 from h) (by decide)
  | [_, _], h => exact absurd (show (20 : Int) = 0 from h) (by decide)
  | a :: b :: c :: d :: l, h => exact absurd (show (20 : Int) = 0 from h) (by decide)
  | [a, b, c], h =>
   have h' : (ver3 a b c).2 = 0 := h
   show (ver3 a b c).1 = 0 ∨ (ver3 a b c).1 = 1
   unfold ver3 at h' ⊢
   split at h'
   ·rename_i h1
    rw [if_pos h1]
    split at h'
    ·rename_i h2
     rw [if_pos h2]
     exact .inl rfl
    ·rename_i h2
     rw [if_neg h2]
     split at h'
     ·rename_i h3
      rw [if_pos h3]
      exact .inr rfl
     ·exact absurd (show (24 : Int) = 0 from h') (by decide)
   ·exact absurd (show (20 : Int) = 0 from h') (by decide)
 ·exact absurd (show (20 : Int) = 0 from h) (by decide)
theorem fields_good : ∀ (ls : List (List UInt8)) (n : Nat), n ≤ 20 → (fieldsP n ls).2 = 0 → (fieldsP n ls).1.any badF = false ∧ (fieldsP n ls).1.length = ls.length ∧ n + ls.length ≤ 20 ∧ Lib.lens ((fieldsP n ls).1.map fldS) ≤ Lib.lens ls + ls.length
 | [], n, hn, _ => ⟨rfl, rfl, hn, Nat.le_refl _⟩
 | l :: r, n, hn, h => by
  rw [fieldsP] at h ⊢
  by_cases h20 : n = 20
  ·rw [if_pos h20] at h
   exact absurd (show (2 : Int) = 0 from h) (by decide)
  ·rw [if_neg h20] at h ⊢
   by_cases he : (fieldP l).2.2 = 0
   ·rw [if_pos he] at h ⊢
    by_cases hq : (fieldsP (n + 1) r).2 = 0
    ·rw [if_pos hq]
     obtain ⟨a1, a2, a3, a4⟩ := fields_good r (n + 1) (by omega) hq
     have hf : badF ⟨(fieldP l).1, (fieldP l).2.1⟩ = false ∧ (fldS ⟨(fieldP l).1, (fieldP l).2.1⟩).length ≤ l.length + 1 := by
      unfold fieldP at he ⊢
      split at he
      ·rename_i hc
       rw [if_pos hc]
       simp only [Bool.and_eq_true] at hc
       refine ⟨?_, ?_⟩
       ·show (!Sp.nameB (Sp.cutL 58 l) || !Sp.valB (Sp.trim (Sp.cutR 58 l))) = false
        rw [hc.2.1, hc.2.2]
        rfl
       ·show (Sp.cutL 58 l ++ 58 :: 32 :: Sp.trim (Sp.cutR 58 l)).length ≤ _
        have h3 := Sp.trim_length (Sp.cutR 58 l)
        have hm : (58 : UInt8) ∈ l := by
         have := hc.1
         unfold Sp.cutIs at this
         rwa [List.contains_iff_mem] at this
        have h4 := (upto_lt 58 l).2 hm
        have h5 : (Sp.cutL 58 l).length = upto 58 l := by rw [← cutL_upto, List.length_take]; omega
        have h6 : (Sp.cutR 58 l).length = l.length - (upto 58 l + 1) := by rw [← cutR_upto _ _ hm, List.length_drop]
        rw [List.length_append, List.length_cons, List.length_cons]
        omega
      ·exact absurd (show (21 : Int) = 0 from he) (by decide)
     refine ⟨?_, ?_, ?_, ?_⟩
     ·show (List.any (⟨(fieldP l).1, (fieldP l).2.1⟩ :: (fieldsP (n + 1) r).1) badF) = false
      rw [List.any_cons, hf.1, a1]
      rfl
     ·show (_ :: (fieldsP (n + 1) r).1).length = _
      rw [List.length_cons, List.length_cons, a2]
     ·rw [List.length_cons]
      omega
     ·show Lib.lens ((⟨(fieldP l).1, (fieldP l).2.1⟩ :: (fieldsP (n + 1) r).1).map fldS) ≤ _
      have e1 : ∀ (x : List UInt8) (y : List (List UInt8)), Lib.lens (x :: y) = x.length + Lib.lens y := fun x y => by simp [Lib.lens]
      rw [List.map_cons, e1, e1, List.length_cons]
      have := hf.2
      omega
    ·rw [if_neg hq] at h
     exact absurd h hq
   ·rw [if_neg he] at h
    exact absurd h he
theorem consH_sum (a : UInt8) (ls : List (List UInt8)) (h : ls ≠ []) : Lib.lens (consH a ls) = Lib.lens ls + 1 ∧ (consH a ls).length = ls.length := by
 cases ls with
 | nil => exact absurd rfl h
 | cons p r =>
  refine ⟨?_, rfl⟩
  simp [consH, Lib.lens]
  omega
theorem lines_sum : ∀ l : List UInt8, Lib.lens (linesL l) ≤ l.length
 | [] => by simp [linesL, Lib.lens]
 | [b] => by simp [linesL, Lib.lens]
 | a :: b :: l => by
  have h1 := lines_sum l
  have h2 := lines_sum (b :: l)
  rw [linesL]
  split
  ·have : Lib.lens ([] :: linesL l) = Lib.lens (linesL l) := by simp [Lib.lens]
   rw [this, List.length_cons, List.length_cons]
   omega
  ·rw [(consH_sum a _ (linesL_ne _)).1, List.length_cons]
   omega
theorem first_right (ans : Bool) (l : List UInt8) (fs : List S37) (h : (firstP ans l).2 = 0) (h1 : fs.length ≤ 20) (h2 : fs.any badF = false) :
  rightS (firstP ans l).1.1 (firstP ans l).1.2.1 (firstP ans l).1.2.2.1 (firstP ans l).1.2.2.2.1 (firstP ans l).1.2.2.2.2 fs ans = true := by
 have go : ∀ (m t : ByteArray) (st : Int) (rs : ByteArray) (mi : Int), mi = 0 ∨ mi = 1 → (if ans = true then m.data.toList = [] ∧ t.data.toList = [] ∧ 100 ≤ st ∧ st ≤ 599 ∧ reasonS rs.data.toList = true else Sp.nameB m.data.toList = true ∧ targetS t.data.toList = true ∧ st = 0 ∧ rs.data.toList = []) → rightS m t st rs mi fs ans = true := by
  intro m t st rs mi hmi hx
  unfold rightS
  rw [if_neg (by omega), if_neg (by omega), if_neg (by omega), if_neg (by rw [h2]; decide)]
  cases ans with
  | true =>
   rw [if_pos rfl] at hx ⊢
   rw [decide_eq_true hx.1, decide_eq_true hx.2.1, decide_eq_true hx.2.2.1, decide_eq_true hx.2.2.2.1, hx.2.2.2.2]
   rfl
  | false =>
   have hft : ¬ ((false : Bool) = true) := by decide
   rw [if_neg hft] at hx ⊢
   rw [hx.1, hx.2.1, decide_eq_true hx.2.2.1, decide_eq_true hx.2.2.2]
   rfl
 unfold firstP at h ⊢
 generalize wordsL l = ws at h ⊢
 match ws, h with
 | [], h => exact absurd (show (20 : Int) = 0 from h) (by decide)
 | [_], h => exact absurd (show (20 : Int) = 0 from h) (by decide)
 | [_, _], h => exact absurd (show (20 : Int) = 0 from h) (by decide)
 | a :: b :: c :: d :: l, h => exact absurd (show (20 : Int) = 0 from h) (by decide)
 | [w0, w1, w2], h =>
  have hf : firstW ans [w0, w1, w2] = if ans = true then ansP w0 w1 w2 else reqP w0 w1 w2 := rfl
  rw [hf] at h ⊢
  cases ans with
  | true =>
   rw [if_pos rfl] at h ⊢
   unfold ansP at h ⊢
   split at h
   ·rename_i c1
    rw [if_pos c1]
    split at h
    ·rename_i c2
     rw [if_pos c2]
     split at h
     ·rename_i c3
      rw [if_pos c3]
      simp only [Bool.and_eq_true, decide_eq_true_eq] at c1 c3
      refine go _ _ _ _ _ (ver_ok _ c2) ?_
      rw [if_pos rfl]
      exact ⟨rfl, rfl, c3.1, c3.2, c1.2.2⟩
     ·exact absurd (show (20 : Int) = 0 from h) (by decide)
    ·rename_i c2
     exact absurd h c2
   ·exact absurd (show (20 : Int) = 0 from h) (by decide)
  | false =>
   have hft : ¬ ((false : Bool) = true) := by decide
   rw [if_neg hft] at h ⊢
   unfold reqP at h ⊢
   split at h
   ·rename_i c1
    rw [if_pos c1]
    split at h
    ·rename_i c2
     rw [if_pos c2]
     simp only [Bool.and_eq_true] at c1
     refine go _ _ _ _ _ (ver_ok _ c2) ?_
     rw [if_neg hft]
     exact ⟨c1.1, c1.2, rfl, rfl⟩
    ·rename_i c2
     exact absurd h c2
   ·exact absurd (show (20 : Int) = 0 from h) (by decide)
theorem body_len (m t : ByteArray) (st : Int) (rs : ByteArray) (mi : Int) (fs : List S37) (ans : Bool) (h : rightS m t st rs mi fs ans = true) : (bodyS ans m t st rs mi fs).length ≤ 300 + 2 * fs.length + Lib.lens (fs.map fldS) := by
 have h1 := (first_back m t st rs mi fs ans h).2.2
 unfold bodyS
 rw [join_len, List.length_map]
 show _ + (2 * fs.length + _) ≤ _
 omega
theorem parse_right (ans : Bool) (l : List UInt8) (h : (parseH ans l).2.2.2.2.2.2 = 0) :
  ∃ m t st rs mi fs, parseH ans l = (m, t, st, rs, mi, fs, 0) ∧ rightS m t st rs mi fs ans = true ∧ (bodyS ans m t st rs mi fs).length ≤ l.length + 400 := by
 unfold parseH at h ⊢
 split at h
 ·exact absurd (show (2 : Int) = 0 from h) (by decide)
 rename_i hl
 rw [if_neg hl]
 have hsum := lines_sum l
 generalize linesL l = ls at h hsum ⊢
 match ls, h, hsum with
 | [], h, _ => exact absurd (show (20 : Int) = 0 from h) (by decide)
 | x :: r, h, hsum =>
  have h' : (headW (firstP ans x) (fieldsP 0 r)).2.2.2.2.2.2 = 0 := h
  show ∃ m t st rs mi fs, headW (firstP ans x) (fieldsP 0 r) = _ ∧ _
  unfold headW at h' ⊢
  split at h'
  ·rename_i c1
   rw [if_pos c1]
   split at h'
   ·rename_i c2
    obtain ⟨f1, f2, f3, f4⟩ := fields_good r 0 (by decide) c2
    rw [if_pos c2]
    have hr := first_right ans x (fieldsP 0 r).1 c1 (by omega) f1
    refine ⟨_, _, _, _, _, _, rfl, hr, ?_⟩
    have hb := body_len _ _ _ _ _ _ _ hr
    have e1 : Lib.lens (x :: r) = x.length + Lib.lens r := by simp [Lib.lens]
    omega
   ·rename_i c2
    exact absurd h' c2
  ·rename_i c1
   exact absurd h' c1
theorem parse_zero (ans : Bool) (l : List UInt8) (h : (parseH ans l).2.2.2.2.2.2 ≠ 0) : ∃ e, e ≠ 0 ∧ parseH ans l = zeros e := by
 unfold parseH at h ⊢
 split at h
 ·rename_i c
  rw [if_pos c]
  exact ⟨2, by decide, rfl⟩
 ·rename_i c
  rw [if_neg c]
  generalize linesL l = ls at h ⊢
  match ls, h with
  | [], _ => exact ⟨20, by decide, rfl⟩
  | x :: r, h =>
   have h' : (headW (firstP ans x) (fieldsP 0 r)).2.2.2.2.2.2 ≠ 0 := h
   show ∃ e, e ≠ 0 ∧ headW (firstP ans x) (fieldsP 0 r) = zeros e
   unfold headW at h' ⊢
   split at h'
   ·rename_i c1
    rw [if_pos c1]
    split at h'
    ·exact absurd rfl h'
    ·rename_i c2
     rw [if_neg c2]
     exact ⟨_, c2, rfl⟩
   ·rename_i c1
    rw [if_neg c1]
    exact ⟨_, c1, rfl⟩
theorem right_sizes {m t : ByteArray} {st : Int} {rs : ByteArray} {mi : Int} {fs : List S37} {ans : Bool} (h : rightS m t st rs mi fs ans = true) :
  m.size ≤ 100000 ∧ t.size ≤ 100000 ∧ rs.size ≤ 100000 ∧ (∀ f ∈ fs, f.f0.size ≤ 100000 ∧ f.f1.size ≤ 100000) := by
 obtain ⟨_, _, _, g4, g5⟩ := right_parts h
 have hf : ∀ f ∈ fs, f.f0.size ≤ 100000 ∧ f.f1.size ≤ 100000 := fun f hf => by
  have hb : badF f = false := by
   have := List.any_eq_false.1 g4 f hf
   simpa using this
  have := (fld_parse f hb).2.2
  omega
 cases ans with
 | true =>
  rw [if_pos rfl] at g5
  have h1 := (reason_not g5.2.2.2.2).2
  rw [size_data] at h1
  rw [empty_data g5.1, empty_data g5.2.1]
  exact ⟨by decide, by decide, by omega, hf⟩
 | false =>
  have hft : ¬ ((false : Bool) = true) := by decide
  rw [if_neg hft] at g5
  have h1 := (name_not g5.1).2
  have h2 := (targ_not g5.2.1).2
  rw [size_data] at h1 h2
  rw [empty_data g5.2.2.2]
  exact ⟨by omega, by omega, by decide, hf⟩
theorem targs_ok : ∀ m ∈ mTargs, targetS m.data.toList = true := by
 have h : (mTargs.all fun m => targetS m.data.toList) = true := by kernel_rfl
 exact List.all_eq_true.1 h
theorem reas_ok : ∀ m ∈ mReas, reasonS m.data.toList = true := by
 have h : (mReas.all fun m => reasonS m.data.toList) = true := by kernel_rfl
 exact List.all_eq_true.1 h
theorem stats_ok : ∀ n ∈ mStats, 100 ≤ n ∧ n ≤ 599 := by
 have h : (mStats.all fun n => decide (100 ≤ n ∧ n ≤ 599)) = true := by kernel_rfl
 intro n hn
 simpa using List.all_eq_true.1 h n hn
theorem mnames_ok : ∀ m ∈ mNames, Sp.nameB m.data.toList = true := by
 have h : (mNames.all fun m => Sp.nameB m.data.toList) = true := by kernel_rfl
 exact List.all_eq_true.1 h
theorem mvals_ok : ∀ m ∈ mVals, Sp.valB m.data.toList = true := by
 have h : (mVals.all fun m => Sp.valB m.data.toList) = true := by kernel_rfl
 exact List.all_eq_true.1 h
theorem mmeths_ok : ∀ m ∈ mMeths, Sp.nameB m.data.toList = true := by
 have h : (mMeths.all fun m => Sp.nameB m.data.toList) = true := by kernel_rfl
 exact List.all_eq_true.1 h
theorem mfs_good {fs : List S37} (h : MFs fs) : fs.any badF = false := by
 rw [List.any_eq_false]
 intro x hx
 unfold badF
 rw [mnames_ok _ (h x hx).1, mvals_ok _ (h x hx).2]
 decide
theorem lens_good : ∀ fs : List S37, fs.any badF = false → Lib.lens (fs.map fldS) ≤ fs.length * 242
 | [], _ => by simp [Lib.lens]
 | f :: fs, h => by
  rw [List.any_cons, Bool.or_eq_false_iff] at h
  have h1 := (fld_parse f h.1).2.2
  have h2 := lens_good fs h.2
  have e : Lib.lens ((f :: fs).map fldS) = (fldS f).length + Lib.lens (fs.map fldS) := by simp [Lib.lens]
  have e2 : (fldS f).length = f.f0.size + f.f1.size + 2 := by
   unfold fldS
   rw [List.length_append, List.length_cons, List.length_cons, size_data, size_data]
   omega
  rw [e, e2, List.length_cons, Nat.succ_mul]
  omega
theorem made_right (l : List Int) (hl : l.length ≤ 281474976710656) (hw : ∀ x ∈ l, (Lit.int .u8 x).wf = true) (ans : Bool) :
  ∃ m t st rs mi fs, (∀ k, 20 ≤ k → lockagelaw06_Made.f k l ans = some (m, t, st, rs, mi, fs)) ∧ rightS m t st rs mi fs ans = true ∧ (bodyS ans m t st rs mi fs).length ≤ 1800 := by
 have fin : ∀ (m t : ByteArray) (st : Int) (rs : ByteArray) (mi : Int) (fs : List S37), fs.length ≤ 6 → MFs fs → rightS m t st rs mi fs ans = true → (bodyS ans m t st rs mi fs).length ≤ 1800 := by
  intro m t st rs mi fs h6 hm hr
  have h1 := body_len m t st rs mi fs ans hr
  have h2 := lens_good fs (mfs_good hm)
  omega
 cases ans with
 | false =>
  obtain ⟨m, t, mi, fs, h1, hm, ht, hi, h6, hf⟩ := Made_false l hl hw
  have hr : rightS m t 0 ⟨#[]⟩ mi fs false = true := by
   unfold rightS
   rw [if_neg (by omega), if_neg (by omega), if_neg (by omega), if_neg (by rw [mfs_good hf]; decide), if_neg (by decide), mmeths_ok m hm, targs_ok t ht]
   rfl
  exact ⟨m, t, 0, ⟨#[]⟩, mi, fs, h1, hr, fin _ _ _ _ _ _ h6 hf hr⟩
 | true =>
  obtain ⟨st, s, mi, fs, h1, hs, hq, hi, h6, hf⟩ := Made_true l hl hw
  have hst := stats_ok st hs
  have hr : rightS ⟨#[]⟩ ⟨#[]⟩ st s mi fs true = true := by
   unfold rightS
   rw [if_neg (by omega), if_neg (by omega), if_neg (by omega), if_neg (by rw [mfs_good hf]; decide), if_pos rfl, reas_ok s hq, decide_eq_true hst.1, decide_eq_true hst.2]
   rfl
  exact ⟨⟨#[]⟩, ⟨#[]⟩, st, s, mi, fs, h1, hr, fin _ _ _ _ _ _ h6 hf hr⟩
theorem p06a : parseH false [71, 69, 84, 32, 47, 97, 32, 72, 84, 84, 80, 47, 49, 46, 49, 13, 10, 72, 111, 115, 116, 58, 32, 120] = (mkL [71, 69, 84], mkL [47, 97], 0, ⟨#[]⟩, 1, [⟨mkL [72, 111, 115, 116], mkL [120]⟩], 0) := by kernel_rfl
theorem p06b : parseH true [72, 84, 84, 80, 47, 49, 46, 48, 32, 52, 48, 52, 32, 78, 111, 116, 32, 70, 111, 117, 110, 100] = (⟨#[]⟩, ⟨#[]⟩, 404, mkL [78, 111, 116, 32, 70, 111, 117, 110, 100], 0, [], 0) := by kernel_rfl
theorem p06c : parseH false [71, 69, 84, 32, 47, 97, 32, 72, 84, 84, 80, 47, 50, 46, 48] = zeros 24 := by kernel_rfl
theorem p06d : parseH false [71, 69, 84, 32, 47, 97] = zeros 20 := by kernel_rfl
theorem p06e : rightS (mkL [71, 69, 84]) (mkL [47, 97]) 0 ⟨#[]⟩ 1 [⟨mkL [72, 111, 115, 116], mkL [120]⟩] false = true := by kernel_rfl
theorem p06f : rightS (mkL [71, 69, 84]) (mkL [47, 97]) 0 ⟨#[]⟩ 1 [⟨mkL [72, 111, 115, 116], mkL [120]⟩] true = false := by kernel_rfl
theorem p06g : bodyS false (mkL [71, 69, 84]) (mkL [47, 97]) 0 ⟨#[]⟩ 1 [⟨mkL [72, 111, 115, 116], mkL [120]⟩] = [71, 69, 84, 32, 47, 97, 32, 72, 84, 84, 80, 47, 49, 46, 49, 13, 10, 72, 111, 115, 116, 58, 32, 120] := by kernel_rfl
theorem awake_ok (k : Nat) (hk : 800000 ≤ k) : lockagelaw06_awake.f k = some true := by
 have hs := right_sizes p06e
 unfold lockagelaw06_awake.f
 have q1 := Parse_ok (mkL [71, 69, 84, 32, 47, 97, 32, 72, 84, 84, 80, 47, 49, 46, 49, 13, 10, 72, 111, 115, 116, 58, 32, 120]) false k (by omega)
 rw [mkL_data, p06a] at q1
 have q2 := Parse_ok (mkL [72, 84, 84, 80, 47, 49, 46, 48, 32, 52, 48, 52, 32, 78, 111, 116, 32, 70, 111, 117, 110, 100]) true k (by omega)
 rw [mkL_data, p06b] at q2
 have q3 := Parse_ok (mkL [71, 69, 84, 32, 47, 97, 32, 72, 84, 84, 80, 47, 50, 46, 48]) false k (by omega)
 rw [mkL_data, p06c] at q3
 have q4 := Parse_ok (mkL [71, 69, 84, 32, 47, 97]) false k (by omega)
 rw [mkL_data, p06d] at q4
 have q5 := Print_ev (mkL [71, 69, 84]) (mkL [47, 97]) 0 ⟨#[]⟩ 1 [⟨mkL [72, 111, 115, 116], mkL [120]⟩] false hs.1 hs.2.1 hs.2.2.1 hs.2.2.2 k (by omega)
 rw [p06e, if_pos rfl, p06g, if_neg (by decide)] at q5
 have q6 := Right_ev (mkL [71, 69, 84]) (mkL [47, 97]) 0 ⟨#[]⟩ 1 [⟨mkL [72, 111, 115, 116], mkL [120]⟩] false (by decide) (by decide) (by decide) (by kernel_rfl) k (by show 20 ≤ k; omega)
 rw [p06e] at q6
 have q7 := Right_ev (mkL [71, 69, 84]) (mkL [47, 97]) 0 ⟨#[]⟩ 1 [⟨mkL [72, 111, 115, 116], mkL [120]⟩] true (by decide) (by decide) (by decide) (by kernel_rfl) k (by show 20 ≤ k; omega)
 rw [p06f] at q7
 rw [show head_Parse.f k (⟨#[71, 69, 84, 32, 47, 97, 32, 72, 84, 84, 80, 47, 49, 46, 49, 13, 10, 72, 111, 115, 116, 58, 32, 120]⟩ : ByteArray) false = _ from q1, Option.bind_some]
 dsimp only
 rw [q5, Option.bind_some]
 rw [show head_Parse.f k (⟨#[72, 84, 84, 80, 47, 49, 46, 48, 32, 52, 48, 52, 32, 78, 111, 116, 32, 70, 111, 117, 110, 100]⟩ : ByteArray) true = _ from q2, Option.bind_some]
 rw [show head_Parse.f k (⟨#[71, 69, 84, 32, 47, 97, 32, 72, 84, 84, 80, 47, 50, 46, 48]⟩ : ByteArray) false = _ from q3, Option.bind_some]
 rw [show head_Parse.f k (⟨#[71, 69, 84, 32, 47, 97]⟩ : ByteArray) false = _ from q4, Option.bind_some]
 dsimp only [zeros]
 rw [if_pos rfl, if_pos rfl, toList_data, mkL_data, if_pos (by decide), if_pos rfl, if_pos rfl, toList_data, mkL_data, if_pos rfl]
 simp [q6, q7]
end Go.Proofs.YtemhokkfefidlaaGreatDoor.P
namespace Go.Proofs.YtemhokkfefidlaaGreatDoor.P
open Go.RowKit Go.Proofs.YtemhokkfefidlaaGreatDoorW.PrintWords Go.Proofs.YtemhokkfefidlaaGreatDoorW.PrintLast Go.Proofs.YtemhokkfefidlaaGreatDoorW.PrintMore
theorem Same05_at (l : List S37) (hl : l.length < 4398046511104) (d : Nat) :
  ∀ (i k : Nat), l.length - i = d → i ≤ l.length → d + 1 ≤ k → lockageref05_Same.l0 k l l i = some true := by
 induction d with
 | zero =>
  intro i k hd hi hk
  obtain ⟨k, rfl⟩ : ∃ j, k = j + 1 := ⟨k - 1, by omega⟩
  rw [lockageref05_Same.l0, if_neg (by omega)]
 | succ d ih =>
  intro i k hd hi hk
  obtain ⟨k, rfl⟩ : ∃ j, k = j + 1 := ⟨k - 1, by omega⟩
  rw [lockageref05_Same.l0, if_pos (by omega), if_pos (by omega), if_pos (by omega), if_neg (by simp), wrap_nx i (by omega)]
  exact ih (i + 1) k (by omega) (by omega) (by omega)
theorem Same06_ev (m t : ByteArray) (st : Int) (rs : ByteArray) (mi : Int) (fs : List S37) (hl : fs.length ≤ 1000) (k : Nat) (hk : 2000 ≤ k) : lockageref06_Same.f k m t st rs mi fs m t st rs mi fs = some true := by
 unfold lockageref06_Same.f lockageref05_Same.f
 rw [if_pos rfl, if_pos rfl, if_pos rfl, if_pos rfl, if_pos rfl, if_pos rfl]
 have := Same05_at fs (by omega) fs.length 0 k (Nat.sub_zero _) (Nat.zero_le _) (by omega)
 rw [show lockageref05_Same.l0 k fs fs 0 = some true from this]
 rfl
theorem cut4 (b : List UInt8) (hb : b.length ≤ 100000) : wrap64 (((mkL (b ++ [13, 10, 13, 10])).size : Int) - 4) = ((b.length : Nat) : Int) ∧ (mkL (b ++ [13, 10, 13, 10])).size = b.length + 4 := by
 have : (mkL (b ++ [13, 10, 13, 10])).size = b.length + 4 := by rw [mkL_size, List.length_append]; rfl
 refine ⟨?_, this⟩
 rw [this]
 unfold wrap64
 omega
end Go.Proofs.YtemhokkfefidlaaGreatDoor.P
namespace Go.Proofs.YtemhokkfefidlaaGreatDoor.P
open Go.RowKit Go.Proofs.YtemhokkfefidlaaGreatDoorW.PrintWords Go.Proofs.YtemhokkfefidlaaGreatDoorW.PrintLast Go.Proofs.YtemhokkfefidlaaGreatDoorW.PrintMore
theorem byte_is0 {b : UInt8} {n : Nat} (hn : n < 256) : ((b.toNat : Int) = (n : Int)) ↔ b = UInt8.ofNat n := by
 constructor
 ·intro h
  have e : b.toNat = n := by omega
  rw [← e]
  exact (byte_back b).symm
 ·rintro rfl
  have : (UInt8.ofNat n).toNat = n := by simp; omega
  omega
theorem is13 {b : UInt8} : ((b.toNat : Int) = 13) ↔ b = 13 := byte_is0 (n := 13) (by decide)
theorem is10 {b : UInt8} : ((b.toNat : Int) = 10) ↔ b = 10 := byte_is0 (n := 10) (by decide)
theorem is32 {b : UInt8} : ((b.toNat : Int) = 32) ↔ b = 32 := byte_is0 (n := 32) (by decide)
theorem is46 {b : UInt8} : ((b.toNat : Int) = 46) ↔ b = 46 := byte_is0 (n := 46) (by decide)
theorem is49 {b : UInt8} : ((b.toNat : Int) = 49) ↔ b = 49 := byte_is0 (n := 49) (by decide)
theorem slice_more (l : List UInt8) (f i : Nat) (hf : f ≤ i) (h : i < l.length) : (l.drop f).take (i + 1 - f) = (l.drop f).take (i - f) ++ [l[i]] := by
 have e : i + 1 - f = (i - f) + 1 := by omega
 have h2 : i - f < (l.drop f).length := by rw [List.length_drop]; omega
 rw [e, List.take_succ_eq_append_getElem h2, List.getElem_drop]
 congr 3
 omega
theorem ext_slice (x : ByteArray) (i j : Nat) : x.extract i j = mkL ((x.data.toList.drop i).take (j - i)) := H.ba_ext (by
 rw [ByteArray.data_extract, Array.toList_extract, mkL_data]
 try simp only [List.extract_eq_take_drop])
def glue (p : List UInt8) : List (List UInt8) → List (List UInt8)
 | [] => [p]
 | q :: r => (p ++ q) :: r
theorem glue_cons (p : List UInt8) (a : UInt8) (ls : List (List UInt8)) (h : ls ≠ []) : glue p (consH a ls) = glue (p ++ [a]) ls := by
 cases ls with
 | nil => exact absurd rfl h
 | cons q r => simp [glue, consH]
theorem Rlines_at (x : ByteArray) (hx : x.size ≤ 1000000) (d : Nat) : ∀ (f i k : Nat) (acc : List ByteArray), x.size - i ≤ d → f ≤ i → i ≤ x.size → acc.length ≤ 2 * i → d + 2 ≤ k →
  lockageref06_lines.l0 k x acc f i = some (acc ++ (glue ((x.data.toList.drop f).take (i - f)) (linesL (x.data.toList.drop i))).map mkL) := by
 have hsz := size_data x
 induction d with
 | zero =>
  intro f i k acc hd hf hi ha hk
  obtain ⟨k, rfl⟩ : ∃ j, k = j + 1 := ⟨k - 1, by omega⟩
  have hw := wrap_nx i (by omega)
  have e : i = x.size := by omega
  rw [lockageref06_lines.l0, hw, if_neg (by omega), if_pos (by omega), if_pos (by omega), if_pos (by omega), Int.toNat_natCast, ext_slice, ← e, List.drop_of_length_le (by omega : x.data.toList.length ≤ i)]
  show some (acc ++ [mkL _]) = some (acc ++ [mkL (_ ++ [])])
  rw [List.append_nil]
 | succ d ih =>
  intro f i k acc hd hf hi ha hk
  obtain ⟨k, rfl⟩ : ∃ j, k = j + 1 := ⟨k - 1, by omega⟩
  have HW := Lib.hid (wrap_nx i (by omega))
  by_cases hlt : i + 1 < x.size
  ·have hl : i < x.data.toList.length := by omega
   have hl2 : i + 1 < x.data.toList.length := by omega
   have ed : x.data.toList.drop i = x.data.toList[i] :: x.data.toList.drop (i + 1) := List.drop_eq_getElem_cons hl
   have ed2 : x.data.toList.drop (i + 1) = x.data.toList[i + 1] :: x.data.toList.drop (i + 2) := List.drop_eq_getElem_cons hl2
   have other : ([13, 10] : List UInt8).isPrefixOf (x.data.toList.drop i) = false → lockageref06_lines.l0 k x acc f ((i + 1 : Nat) : Int) = some (acc ++ (glue ((x.data.toList.drop f).take (i - f)) (linesL (x.data.toList.drop i))).map mkL) := by
    intro hp
    rw [ed] at hp ⊢
    rw [linesL_cons hp, glue_cons _ _ _ (linesL_ne _), ← slice_more _ _ _ hf hl]
    exact ih f (i + 1) k acc (by omega) (by omega) (by omega) (by omega) (by omega)
   rw [lockageref06_lines.l0, HW.out, if_pos (by omega), if_pos (by omega), if_pos (by omega), bt_low (show i < x.size by omega)]
   by_cases h1 : x.data.toList[i] = 13
   ·rw [if_pos (is13.2 h1), if_pos (by omega), bt_low hlt]
    by_cases h2 : x.data.toList[i + 1] = 10
    ·have HW2 := Lib.hid (show wrap64 ((i : Int) + 2) = ((i + 2 : Nat) : Int) by unfold wrap64; omega)
     have HW3 := Lib.hid (wrap_nx (i + 1) (by omega))
     rw [if_pos (is10.2 h2), if_pos (by omega), if_pos (by omega), if_pos (by omega), if_pos (by omega), Int.toNat_natCast, Int.toNat_natCast, HW2.out, HW3.out, ext_slice]
     rw [ih (i + 2) (i + 2) k _ (by omega) (by omega) (by omega) (by rw [List.length_append, List.length_singleton]; omega) (by omega), ed, ed2, h1, h2, linesL_hit]
     have e0 : (x.data.toList.drop (i + 2)).take (i + 2 - (i + 2)) = [] := by rw [Nat.sub_self]; rfl
     have e1 : glue [] (linesL (x.data.toList.drop (i + 2))) = linesL (x.data.toList.drop (i + 2)) := by
      cases hh : linesL (x.data.toList.drop (i + 2)) with
      | nil => exact absurd hh (linesL_ne _)
      | cons q r => rfl
     have e2 : (glue ((x.data.toList.drop f).take (i - f)) ([] :: linesL (x.data.toList.drop (i + 2)))).map mkL = mkL ((x.data.toList.drop f).take (i - f)) :: (linesL (x.data.toList.drop (i + 2))).map mkL := by
      show (((x.data.toList.drop f).take (i - f) ++ []) :: linesL _).map mkL = _
      rw [List.append_nil, List.map_cons]
     rw [e0, e1, e2, List.append_assoc]
     rfl
    ·rw [if_neg (mt is10.1 h2)]
     refine other ?_
     cases hp : ([13, 10] : List UInt8).isPrefixOf (x.data.toList.drop i) with
     | false => rfl
     | true =>
      rw [ed] at hp
      obtain ⟨l, _, e⟩ := pre2 _ _ hp
      rw [ed2] at e
      injection e with e
      exact absurd e h2
   ·rw [if_neg (mt is13.1 h1)]
    refine other ?_
    cases hp : ([13, 10] : List UInt8).isPrefixOf (x.data.toList.drop i) with
    | false => rfl
    | true =>
     rw [ed] at hp
     obtain ⟨l, e, _⟩ := pre2 _ _ hp
     exact absurd e h1
  ·rw [lockageref06_lines.l0, HW.out, if_neg (by omega), if_pos (by omega), if_pos (by omega), if_pos (by omega), Int.toNat_natCast, ext_slice]
   by_cases he : i = x.size
   ·rw [← he, List.drop_of_length_le (by omega : x.data.toList.length ≤ i)]
    show some (acc ++ [mkL _]) = some (acc ++ [mkL (_ ++ [])])
    rw [List.append_nil]
   ·have hl : i < x.data.toList.length := by omega
    have ed : x.data.toList.drop i = [x.data.toList[i]] := by rw [List.drop_eq_getElem_cons hl, List.drop_of_length_le (by omega)]
    have es : x.size - f = i + 1 - f := by omega
    rw [ed, es, slice_more _ _ _ hf hl]
    rfl
theorem Rlines_ev (x : ByteArray) (hx : x.size ≤ 1000000) (k : Nat) (hk : x.size + 2 ≤ k) : lockageref06_lines.f k x = some ((linesL x.data.toList).map mkL) := by
 unfold lockageref06_lines.f
 have h := Rlines_at x hx x.size 0 0 k [] (by omega) (by omega) (by omega) (by simp) hk
 rw [show lockageref06_lines.l0 k x [] 0 0 = _ from h, List.drop_zero]
 cases hh : linesL x.data.toList with
 | nil => exact absurd hh (linesL_ne _)
 | cons q r => rfl
theorem Rcut_at (x : ByteArray) (hx : x.size ≤ 1000000) (d : Nat) : ∀ (i k : Nat), x.size - i = d → i ≤ x.size → d + 1 ≤ k →
  lockageref06_cut.l0 k x i = some (if (32 : UInt8) ∈ x.data.toList.drop i then (x.extract 0 (i + upto 32 (x.data.toList.drop i)), x.extract (i + upto 32 (x.data.toList.drop i) + 1) x.size, true) else (x, ⟨#[]⟩, false)) := by
 have hsz := size_data x
 induction d with
 | zero =>
  intro i k hd hi hk
  obtain ⟨k, rfl⟩ : ∃ j, k = j + 1 := ⟨k - 1, by omega⟩
  rw [lockageref06_cut.l0, if_neg (by omega), List.drop_of_length_le (by omega)]
  rfl
 | succ d ih =>
  intro i k hd hi hk
  obtain ⟨k, rfl⟩ : ∃ j, k = j + 1 := ⟨k - 1, by omega⟩
  have hlt : i < x.size := by omega
  have hl : i < x.data.toList.length := by omega
  have hw := wrap_nx i (by omega)
  rw [lockageref06_cut.l0, if_pos (by omega), if_pos (by omega), bt_low hlt, List.drop_eq_getElem_cons hl]
  by_cases h : x.data.toList[i] = 32
  ·rw [if_pos (is32.2 h), if_pos (by omega), hw, if_pos (by omega), if_pos (by omega), h, if_pos (by simp), upto_hit, Int.toNat_natCast, Int.toNat_natCast]
   simp only [Nat.add_zero]
  ·rw [if_neg (mt is32.1 h), hw, ih (i + 1) k (by omega) (by omega) (by omega), upto_miss h]
   have e : i + 1 + upto 32 (x.data.toList.drop (i + 1)) = i + (upto 32 (x.data.toList.drop (i + 1)) + 1) := by omega
   rw [e]
   by_cases hm : (32 : UInt8) ∈ x.data.toList.drop (i + 1)
   ·rw [if_pos hm, if_pos (List.mem_cons_of_mem _ hm)]
   ·have hm2 : ¬ ((32 : UInt8) ∈ x.data.toList[i] :: x.data.toList.drop (i + 1)) := by
     rw [List.mem_cons]
     rintro (e | e)
     ·exact h e.symm
     ·exact hm e
    rw [if_neg hm, if_neg hm2]
theorem Rcut_ev (l : List UInt8) (hx : l.length ≤ 1000000) (k : Nat) (hk : l.length + 1 ≤ k) : lockageref06_cut.f k (mkL l) = some (if (32 : UInt8) ∈ l then (mkL (Sp.cutL 32 l), mkL (Sp.cutR 32 l), true) else (mkL l, ⟨#[]⟩, false)) := by
 unfold lockageref06_cut.f
 have h := Rcut_at (mkL l) (by rw [mkL_size]; exact hx) l.length 0 k (by rw [mkL_size]; omega) (Nat.zero_le _) hk
 rw [show lockageref06_cut.l0 k (mkL l) 0 = _ from h, mkL_data, List.drop_zero, Nat.zero_add]
 by_cases hm : (32 : UInt8) ∈ l
 ·rw [if_pos hm, if_pos hm, ext_to, ext_from, mkL_data, cutL_upto, cutR_upto _ _ hm]
  rfl
 ·rw [if_neg hm, if_neg hm]
theorem Rdigit_ev (b : UInt8) : lockageref06_digit.f (b.toNat : Int) = some (isDig b) := by
 have h : ((List.range 256).all fun n => lockageref06_digit.f (n : Int) == some (isDig (UInt8.ofNat n))) = true := by kernel_rfl
 have := byte_all h b
 rw [byte_back] at this
 simpa using this
theorem dig_more (c : UInt8) : isDig c = true → (c.toNat : Int) ≤ 49 → c = 48 ∨ c = 49 := by
 intro h1 h2
 have h : ((List.range 256).all fun n => !isDig (UInt8.ofNat n) || (decide (49 < n) || (decide (UInt8.ofNat n = 48) || decide (UInt8.ofNat n = 49)))) = true := by kernel_rfl
 have := byte_all h c
 rw [byte_back, h1] at this
 simp only [Bool.not_true, Bool.false_or, Bool.or_eq_true, decide_eq_true_eq] at this
 rcases this with h | h | h
 ·omega
 ·exact .inl h
 ·exact .inr h
theorem Rver_ev (l : List UInt8) (hl : l.length ≤ 1000000) (k : Nat) (hk : 5 ≤ k) : lockageref06_version.f k (mkL l) = some (verL l) := by
 obtain ⟨k, rfl⟩ : ∃ j, k = j + 1 := ⟨k - 1, by omega⟩
 have bad : ∀ (b : ByteArray), lockageref06_version.j0 (k + 1) b true = some (0, 20) := fun b => by rw [lockageref06_version.j0, if_pos rfl]
 unfold lockageref06_version.f
 rw [mkL_size]
 by_cases h8 : l.length = 8
 ·match l, h8 with
  | [a, b, c, d, e, f, g, h], _ =>
   have s8 : (mkL [a, b, c, d, e, f, g, h]).size = 8 := rfl
   have x5 : (mkL [a, b, c, d, e, f, g, h]).extract 0 5 = mkL [a, b, c, d, e] := ext_to _ _
   have b5 : bt (mkL [a, b, c, d, e, f, g, h]) 5 = (f.toNat : Int) := bt_mk [a, b, c, d, e, f, g, h] 5 (by simp)
   have b6 : bt (mkL [a, b, c, d, e, f, g, h]) 6 = (g.toNat : Int) := bt_mk [a, b, c, d, e, f, g, h] 6 (by simp)
   have b7 : bt (mkL [a, b, c, d, e, f, g, h]) 7 = (h.toNat : Int) := bt_mk [a, b, c, d, e, f, g, h] 7 (by simp)
   have hv : verL [a, b, c, d, e, f, g, h] = if [a, b, c, d, e] = ([72, 84, 84, 80, 47] : List UInt8) then ver3 f g h else (0, 20) := by
    unfold verL Lib.hasPrefix
    by_cases hp : [a, b, c, d, e] = ([72, 84, 84, 80, 47] : List UInt8)
    ·rw [if_pos hp]
     simp only [List.cons.injEq, and_true] at hp
     obtain ⟨rfl, rfl, rfl, rfl, rfl⟩ := hp
     rw [if_pos (by simp [List.isPrefixOf])]
     rfl
    ·rw [if_neg hp, if_neg]
     intro hq
     rw [List.isPrefixOf_iff_prefix] at hq
     obtain ⟨r, hr⟩ := hq
     simp only [List.cons_append, List.nil_append, List.cons.injEq] at hr
     obtain ⟨rfl, rfl, rfl, rfl, rfl, _⟩ := hr
     exact hp rfl
   rw [if_pos (by rfl), if_pos (by decide), if_pos (by show (5 : Int) ≤ 8; decide), x5, toList_data, mkL_data, hv]
   by_cases hp : [a, b, c, d, e] = ([72, 84, 84, 80, 47] : List UInt8)
   ·rw [if_pos hp, if_pos hp, if_pos (by show (5 : Int) < 8; decide), b5, Rdigit_ev, Option.bind_some]
    unfold ver3
    cases hf : isDig f with
    | false => rw [if_neg (by decide), Bool.false_and, if_neg (by decide)]; exact bad _
    | true =>
     rw [if_pos rfl, if_pos (by show (6 : Int) < 8; decide), b6, Bool.true_and]
     by_cases hg : g = 46
     ·subst hg
      have e46 : ((UInt8.toNat 46 : Nat) : Int) = 46 := rfl
      rw [if_pos e46, if_pos (by show (7 : Int) < 8; decide), b7, Rdigit_ev, Option.bind_some]
      cases hh : isDig h with
      | false =>
       have e2 : ((46 : UInt8) == 46 && false) = false := rfl
       rw [e2, if_neg (by decide)]
       exact bad _
      | true =>
       have e2 : ((46 : UInt8) == 46 && true) = true := rfl
       rw [e2, if_pos rfl, lockageref06_version.j0, if_neg (by decide), if_pos (by rw [mkL_size]; simp), b5]
       by_cases h1 : f = 49
       ·subst h1
        have e49 : ((UInt8.toNat 49 : Nat) : Int) = 49 := rfl
        rw [if_pos e49, if_pos (by rw [mkL_size]; simp), b7]
        by_cases h2 : (h.toNat : Int) > 49
        ·have hn8 : (h == 48) = false := beq_eq_false_iff_ne.mpr (fun e => by subst e; exact absurd h2 (by decide))
         have hn9 : (h == 49) = false := beq_eq_false_iff_ne.mpr (fun e => by subst e; exact absurd h2 (by decide))
         rw [if_pos h2, hn8, hn9]
         rfl
        ·rcases dig_more h hh (by omega) with rfl | rfl
         ·rfl
         ·rfl
       ·rw [if_neg (mt is49.1 h1)]
        have hn : (f == 49) = false := beq_eq_false_iff_ne.mpr h1
        rw [hn]
        rfl
     ·have hn : (g == 46) = false := beq_eq_false_iff_ne.mpr hg
      rw [if_neg (mt is46.1 hg), hn, Bool.false_and, if_neg (by decide)]
      exact bad _
   ·rw [if_neg hp, if_neg hp]
    exact bad _
 ·rw [if_neg (by omega)]
  have : verL l = (0, 20) := by
   unfold verL
   split
   ·rename_i hp
    have hd : (l.drop 5).length ≠ 3 := by
     unfold Lib.hasPrefix at hp
     rw [List.isPrefixOf_iff_prefix] at hp
     obtain ⟨r, rfl⟩ := hp
     simp at h8 ⊢
     omega
    generalize l.drop 5 = r at hd
    match r, hd with
    | [], _ => rfl
    | [_], _ => rfl
    | [_, _], _ => rfl
    | [_, _, _], hd => exact absurd rfl hd
    | _ :: _ :: _ :: _ :: _, _ => rfl
   ·rfl
  rw [this]
  exact bad _
end Go.Proofs.YtemhokkfefidlaaGreatDoor.P
namespace Go.Proofs.YtemhokkfefidlaaGreatDoor.P
open Go.RowKit Go.Proofs.YtemhokkfefidlaaGreatDoorW.PrintWords Go.Proofs.YtemhokkfefidlaaGreatDoorW.PrintLast Go.Proofs.YtemhokkfefidlaaGreatDoorW.PrintMore
theorem firstW_none (ans : Bool) (ws : List (List UInt8)) (h : ws.length ≠ 3) : firstW ans ws = (zeroH, 20) := by
 match ws, h with
 | [], _ => rfl
 | [_], _ => rfl
 | [_, _], _ => rfl
 | [_, _, _], h => exact absurd rfl h
 | _ :: _ :: _ :: _ :: _, _ => rfl
theorem Rrequest_ev (l : List UInt8) (hl : l.length ≤ 10000) (k : Nat) (hk : 60000 ≤ k) :
  ∃ h fs, lockageref06_request.f k (mkL l) = some (h.1, h.2.1, h.2.2.1, h.2.2.2.1, h.2.2.2.2, fs, (firstP false l).2) ∧ ((firstP false l).2 = 0 → h = (firstP false l).1 ∧ fs = []) := by
 obtain ⟨k, rfl⟩ : ∃ j, k = j + 1 := ⟨k - 1, by omega⟩
 have bad : ∀ (a b c : ByteArray), ∃ (h : Hd) (fs : List S37), lockageref06_request.j0 (k + 1) a b c true = some (h.1, h.2.1, h.2.2.1, h.2.2.2.1, h.2.2.2.2, fs, 20) ∧ ((20 : Int) = 0 → h = zeroH ∧ fs = []) := fun a b c => by
  rw [lockageref06_request.j0, if_pos rfl]
  exact ⟨(_, _, _, _, _), _, rfl, fun h => absurd h (by decide)⟩
 have a1 := Sp.cutL_length 32 l
 have a2 := Sp.cutR_length 32 l
 have a3 := Sp.cutL_length 32 (Sp.cutR 32 l)
 have a4 := Sp.cutR_length 32 (Sp.cutR 32 l)
 have three : ∀ h1 : (32 : UInt8) ∈ l, (32 : UInt8) ∈ Sp.cutR 32 l → firstP false l = reqP (Sp.cutL 32 l) (Sp.cutL 32 (Sp.cutR 32 l)) (Sp.cutR 32 (Sp.cutR 32 l)) := by
  intro h1 h2
  unfold firstP wordsL
  rw [if_pos h1, if_pos h2]
  rfl
 unfold lockageref06_request.f
 rw [Rcut_ev l (by omega) _ (by omega), Option.bind_some]
 by_cases h1 : (32 : UInt8) ∈ l
 ·rw [if_pos h1]
  dsimp only
  rw [Rcut_ev (Sp.cutR 32 l) (by omega) _ (by omega), Option.bind_some]
  by_cases h2 : (32 : UInt8) ∈ Sp.cutR 32 l
  ·rw [three h1 h2, if_pos h2]
   unfold reqP
   dsimp only
   rw [if_pos rfl, if_pos rfl, RefName_ev _ (by rw [mkL_size]; omega) _ (by rw [mkL_size]; omega), Option.bind_some, mkL_data]
   cases hn : Sp.nameB (Sp.cutL 32 l) with
   | false =>
    rw [if_neg (by decide), Bool.false_and, if_neg (by decide)]
    exact bad _ _ _
   | true =>
    rw [if_pos rfl, Rtarget_ev _ (by rw [mkL_size]; omega) _ (by rw [mkL_size]; omega), Option.bind_some, mkL_data, Bool.true_and]
    cases ht : targetS (Sp.cutL 32 (Sp.cutR 32 l)) with
    | false =>
     rw [if_neg (by decide)]
     exact bad _ _ _
    | true =>
     rw [if_pos rfl, lockageref06_request.j0, if_neg (by decide), Rver_ev _ (by omega) _ (by omega), Option.bind_some]
     by_cases hv : (verL (Sp.cutR 32 (Sp.cutR 32 l))).2 = 0
     ·rw [if_pos hv, hv]
      exact ⟨(_, _, _, _, _), _, rfl, fun _ => ⟨rfl, rfl⟩⟩
     ·rw [if_neg hv]
      exact ⟨(_, _, _, _, _), _, rfl, fun h => absurd h hv⟩
  ·have h3 : firstP false l = (zeroH, 20) := by
    unfold firstP wordsL
    rw [if_pos h1, if_neg h2]
    exact firstW_none _ _ (by simp)
   rw [h3, if_neg h2]
   dsimp only
   rw [if_pos rfl, if_neg (by decide)]
   exact bad _ _ _
 ·have h3 : firstP false l = (zeroH, 20) := by
   unfold firstP wordsL
   rw [if_neg h1]
   exact firstW_none _ _ (by simp)
  rw [h3, if_neg h1]
  dsimp only
  have e0 : lockageref06_cut.f (k + 1) (⟨#[]⟩ : ByteArray) = _ := Rcut_ev [] (by decide) (k + 1) (by show 0 + 1 ≤ _; omega)
  rw [e0, Option.bind_some, if_neg (by decide)]
  exact bad _ _ _
theorem Ranswer_ev (l : List UInt8) (hl : l.length ≤ 10000) (k : Nat) (hk : 60000 ≤ k) :
  ∃ h fs, lockageref06_answer.f k (mkL l) = some (h.1, h.2.1, h.2.2.1, h.2.2.2.1, h.2.2.2.2, fs, (firstP true l).2) ∧ ((firstP true l).2 = 0 → h = (firstP true l).1 ∧ fs = []) := by
 obtain ⟨k, rfl⟩ : ∃ j, k = j + 2 := ⟨k - 2, by omega⟩
 have bad : ∀ (a b c : ByteArray), ∃ (h : Hd) (fs : List S37), lockageref06_answer.j0 (k + 2) a b c true = some (h.1, h.2.1, h.2.2.1, h.2.2.2.1, h.2.2.2.2, fs, 20) ∧ ((20 : Int) = 0 → h = zeroH ∧ fs = []) := fun a b c => by
  rw [lockageref06_answer.j0, if_pos rfl]
  exact ⟨(_, _, _, _, _), _, rfl, fun h => absurd h (by decide)⟩
 have a1 := Sp.cutL_length 32 l
 have a2 := Sp.cutR_length 32 l
 have a3 := Sp.cutL_length 32 (Sp.cutR 32 l)
 have a4 := Sp.cutR_length 32 (Sp.cutR 32 l)
 unfold lockageref06_answer.f
 rw [Rcut_ev l (by omega) _ (by omega), Option.bind_some]
 by_cases h1 : (32 : UInt8) ∈ l
 ·rw [if_pos h1]
  dsimp only
  rw [Rcut_ev (Sp.cutR 32 l) (by omega) _ (by omega), Option.bind_some]
  by_cases h2 : (32 : UInt8) ∈ Sp.cutR 32 l
  ·have h3 : firstP true l = ansP (Sp.cutL 32 l) (Sp.cutL 32 (Sp.cutR 32 l)) (Sp.cutR 32 (Sp.cutR 32 l)) := by
    unfold firstP wordsL
    rw [if_pos h1, if_pos h2]
    rfl
   rw [h3, if_pos h2]
   dsimp only
   generalize Sp.cutL 32 l = w0 at a1
   generalize hw1 : Sp.cutL 32 (Sp.cutR 32 l) = w1 at a3
   generalize Sp.cutR 32 (Sp.cutR 32 l) = w2 at a4
   rw [if_pos rfl, if_pos rfl, mkL_size]
   unfold ansP
   by_cases h33 : w1.length = 3
   ·match w1, h33, a3 with
    | [a, b, c], _, a3 =>
     have b0 : bt (mkL [a, b, c]) 0 = (a.toNat : Int) := bt_mk [a, b, c] 0 (by simp)
     have b1 : bt (mkL [a, b, c]) 1 = (b.toNat : Int) := bt_mk [a, b, c] 1 (by simp)
     have b2 : bt (mkL [a, b, c]) 2 = (c.toNat : Int) := bt_mk [a, b, c] 2 (by simp)
     have hall : ([a, b, c] : List UInt8).all isDig = (isDig a && (isDig b && isDig c)) := by simp
     rw [if_pos (by rfl), if_pos (by show (0 : Int) < 3; decide), b0, Rdigit_ev, Option.bind_some, decide_eq_true (show ([a, b, c] : List UInt8).length = 3 from rfl), Bool.true_and, hall]
     cases ha : isDig a with
     | false => rw [if_neg (by decide), Bool.false_and, Bool.false_and, if_neg (by decide)]; exact bad _ _ _
     | true =>
      rw [if_pos rfl, if_pos (by show (1 : Int) < 3; decide), b1, Rdigit_ev, Option.bind_some, Bool.true_and]
      cases hb : isDig b with
      | false => rw [if_neg (by decide), Bool.false_and, Bool.false_and, if_neg (by decide)]; exact bad _ _ _
      | true =>
       rw [if_pos rfl, if_pos (by show (2 : Int) < 3; decide), b2, Rdigit_ev, Option.bind_some, Bool.true_and]
       cases hc : isDig c with
       | false => rw [if_neg (by decide), Bool.false_and, if_neg (by decide)]; exact bad _ _ _
       | true =>
        rw [if_pos rfl, Rreason_ev _ (by rw [mkL_size]; omega) _ (by rw [mkL_size]; omega), Option.bind_some, mkL_data, Bool.true_and]
        cases hr : reasonS w2 with
        | false => rw [if_neg (by decide)]; exact bad _ _ _
        | true =>
         rw [if_pos rfl, lockageref06_answer.j0, if_neg (by decide), Rver_ev w0 (by omega) _ (by omega), Option.bind_some, RefParse_ev (mkL [a, b, c]) (by show 3 ≤ _; decide) _ (by show 4 * 3 + 100 ≤ _; omega), Option.bind_some, mkL_data]
         by_cases hv : (verL w0).2 = 0
         ·rw [if_pos hv, if_pos hv]
          by_cases g1 : (parseS [a, b, c]).1 < 100
          ·rw [if_pos g1, lockageref06_answer.j1, if_pos rfl, if_neg (by simp; omega)]
           exact ⟨(_, _, _, _, _), _, rfl, fun h => absurd (show (20 : Int) = 0 from h) (by decide)⟩
          ·rw [if_neg g1]
           by_cases g2 : (parseS [a, b, c]).1 > 599
           ·rw [decide_eq_true g2, lockageref06_answer.j1, if_pos rfl, if_neg (by simp; omega)]
            exact ⟨(_, _, _, _, _), _, rfl, fun h => absurd (show (20 : Int) = 0 from h) (by decide)⟩
           ·rw [decide_eq_false g2, lockageref06_answer.j1, if_neg (by decide), if_pos (by simp; omega), hv]
            exact ⟨(_, _, _, _, _), _, rfl, fun _ => ⟨rfl, rfl⟩⟩
         ·rw [if_neg hv, if_neg hv, lockageref06_answer.j1, if_neg (by decide)]
          exact ⟨(_, _, _, _, _), _, rfl, fun h => absurd h hv⟩
   ·rw [if_neg (by omega), decide_eq_false h33, Bool.false_and, if_neg (by decide)]
    exact bad _ _ _
  ·have h3 : firstP true l = (zeroH, 20) := by
    unfold firstP wordsL
    rw [if_pos h1, if_neg h2]
    exact firstW_none _ _ (by simp)
   rw [h3, if_neg h2]
   dsimp only
   rw [if_pos rfl, if_neg (by decide)]
   exact bad _ _ _
 ·have h3 : firstP true l = (zeroH, 20) := by
   unfold firstP wordsL
   rw [if_neg h1]
   exact firstW_none _ _ (by simp)
  rw [h3, if_neg h1]
  dsimp only
  have e0 : lockageref06_cut.f (k + 2) (⟨#[]⟩ : ByteArray) = _ := Rcut_ev [] (by decide) (k + 2) (by show 0 + 1 ≤ _; omega)
  rw [e0, Option.bind_some, if_neg (by decide)]
  exact bad _ _ _
theorem Rfields_loop (a : List UInt8) (ls : List (List UInt8)) (hls : ∀ x ∈ ls, x.length ≤ 100000) (hl : ls.length ≤ 100000) (m t : ByteArray) (st : Int) (rs : ByteArray) (mi : Int) (d : Nat) :
  ∀ (i k : Nat) (acc : List S37), ls.length - i = d → i ≤ ls.length → acc.length = i → acc.length ≤ 20 → 600000 + d + 2 ≤ k →
   lockageref06_Parse.l0 k ((a :: ls).map mkL) ((i + 1 : Nat) : Int) m t st rs mi acc = some (if (fieldsP acc.length (ls.drop i)).2 = 0 then (m, t, st, rs, mi, acc ++ (fieldsP acc.length (ls.drop i)).1, 0) else zeros (fieldsP acc.length (ls.drop i)).2) := by
 have hlen : (((a :: ls).map mkL).length : Int) = ((ls.length + 1 : Nat) : Int) := by rw [List.length_map, List.length_cons]
 induction d with
 | zero =>
  intro i k acc hd hi ha ha2 hk
  obtain ⟨k, rfl⟩ : ∃ j, k = j + 1 := ⟨k - 1, by omega⟩
  rw [lockageref06_Parse.l0, hlen, if_neg (by omega), List.drop_of_length_le (by omega)]
  show _ = some (if (0 : Int) = 0 then _ else _)
  rw [if_pos rfl]
  show _ = some (m, t, st, rs, mi, acc ++ [], 0)
  rw [List.append_nil]
 | succ d ih =>
  intro i k acc hd hi ha ha2 hk
  obtain ⟨k, rfl⟩ : ∃ j, k = j + 1 := ⟨k - 1, by omega⟩
  have hlt : i < ls.length := by omega
  have hs := hls ls[i] (List.getElem_mem hlt)
  have hrd : rdOf ByteArray.empty ((a :: ls).map mkL) ((i + 1 : Nat) : Int) = mkL ls[i] := by
   rw [rdOf_map (a :: ls) (i + 1) (by rw [List.length_cons]; omega)]
   rfl
  rw [lockageref06_Parse.l0, hlen, if_pos (by omega), List.drop_eq_getElem_cons hlt, fieldsP]
  by_cases h20 : acc.length = 20
  ·rw [if_pos (by omega), if_pos h20, if_neg (by decide)]
   rfl
  ·rw [if_neg (by omega), if_pos (by omega), if_neg h20, hrd, RefFParse_ev (mkL ls[i]) (by rw [mkL_size]; omega) k (by rw [mkL_size]; omega), Option.bind_some, mkL_data]
   by_cases he : (fieldP ls[i]).2.2 = 0
   ·rw [if_pos he, if_pos he, if_pos (by omega), wrap_nx (i + 1) (by omega)]
    have ih2 := ih (i + 1) k (acc ++ [⟨(fieldP ls[i]).1, (fieldP ls[i]).2.1⟩]) (by omega) (by omega) (by rw [List.length_append]; simp; omega) (by rw [List.length_append]; simp; omega) (by omega)
    rw [ih2]
    have ea : (acc ++ [(⟨(fieldP ls[i]).1, (fieldP ls[i]).2.1⟩ : S37)]).length = acc.length + 1 := by simp
    rw [ea]
    by_cases hq : (fieldsP (acc.length + 1) (ls.drop (i + 1))).2 = 0
    ·rw [if_pos hq, if_pos hq, if_pos rfl, List.append_assoc]
     rfl
    ·rw [if_neg hq, if_neg hq, if_neg hq]
   ·rw [if_neg he, if_neg he, if_neg he]
    rfl
theorem RParse_ok (x : ByteArray) (ans : Bool) (k : Nat) (hk : 700000 ≤ k) : lockageref06_Parse.f k x ans = some (parseH ans x.data.toList) := by
 obtain ⟨k, rfl⟩ : ∃ j, k = j + 1 := ⟨k - 1, by omega⟩
 have hsz := size_data x
 unfold lockageref06_Parse.f parseH
 rw [hsz]
 by_cases h : x.size > 2000
 ·rw [if_pos (by omega), if_pos h]
  rfl
 rw [if_neg (by omega), if_neg h, Rlines_ev x (by omega) _ (by omega), Option.bind_some]
 have hlen := lines_len x.data.toList
 have hne := linesL_ne x.data.toList
 rw [hsz] at hlen
 generalize linesL x.data.toList = ls at hlen hne ⊢
 match ls, hlen, hne with
 | [], _, hne => exact absurd rfl hne
 | a :: r, hlen, _ =>
  have ha := hlen.1 a (by simp)
  have hl : (((a :: r).map mkL).length : Int) = ((r.length + 1 : Nat) : Int) := by rw [List.length_map, List.length_cons]
  have hrd : rdOf ByteArray.empty ((a :: r).map mkL) 0 = mkL a := rfl
  have fin : ∀ (h : Hd) (fs : List S37), ((firstP ans a).2 = 0 → h = (firstP ans a).1 ∧ fs = []) → lockageref06_Parse.j0 (k + 1) ((a :: r).map mkL) (firstP ans a).2 h.1 h.2.1 h.2.2.1 h.2.2.2.1 h.2.2.2.2 fs = some (headLs ans (a :: r)) := by
   intro h fs p2
   show _ = some (headW (firstP ans a) (fieldsP 0 r))
   unfold headW
   rw [lockageref06_Parse.j0]
   by_cases hp : (firstP ans a).2 = 0
   ·obtain ⟨rfl, rfl⟩ := p2 hp
    rw [if_pos hp, if_pos hp]
    have hfe := Rfields_loop a r (fun x hx => by have := hlen.1 x (List.mem_cons_of_mem _ hx); omega) (by have := hlen.2; rw [List.length_cons] at this; omega) (firstP ans a).1.1 (firstP ans a).1.2.1 (firstP ans a).1.2.2.1 (firstP ans a).1.2.2.2.1 (firstP ans a).1.2.2.2.2 r.length 0 k [] (Nat.sub_zero _) (Nat.zero_le _) rfl (by decide) (by have := hlen.2; rw [List.length_cons] at this; omega)
    rw [List.drop_zero] at hfe
    exact hfe
   ·rw [if_neg hp, if_neg hp]
    rfl
  obtain ⟨hq, fq, q1, q2⟩ := Rrequest_ev a (by omega) (k + 1) (by omega)
  rw [if_pos (by rw [hl]; omega), hrd, q1, Option.bind_some]
  cases ans with
  | true =>
   obtain ⟨h, fs, p1, p2⟩ := Ranswer_ev a (by omega) (k + 1) (by omega)
   rw [if_pos rfl, p1, Option.bind_some]
   exact fin h fs p2
  | false =>
   rw [if_neg (by decide)]
   exact fin hq fq q2
end Go.Proofs.YtemhokkfefidlaaGreatDoor.P
namespace Go.Proofs.YtemhokkfefidlaaGreatDoor.P
open Go.RowKit Go.Proofs.YtemhokkfefidlaaGreatDoorW.PrintWords Go.Proofs.YtemhokkfefidlaaGreatDoorW.PrintLast Go.Proofs.YtemhokkfefidlaaGreatDoorW.PrintMore
theorem RRight_ev (B : Nat) (hB : B ≤ 1000000000) (m t : ByteArray) (st : Int) (rs : ByteArray) (mi : Int) (fs : List S37) (ans : Bool) (hm : m.size ≤ B) (ht : t.size ≤ B) (hr : rs.size ≤ B) (hl : fs.length ≤ 1000000000) (hs : ∀ f ∈ fs, f.f0.size ≤ B ∧ f.f1.size ≤ B) (k : Nat) (hk : fs.length + 4 * B + 200 ≤ k) :
  lockageref06_Right.f k m t st rs mi fs ans = some (rightS m t st rs mi fs ans) := by
 obtain ⟨k, rfl⟩ : ∃ j, k = j + 1 := ⟨k - 1, by omega⟩
 have bad : lockageref06_Right.j0 (k + 1) ans true m t st rs mi fs = some false := by rw [lockageref06_Right.j0, if_pos rfl]
 unfold lockageref06_Right.f rightS
 by_cases h1 : mi < 0
 ·rw [if_pos h1, if_pos h1]; exact bad
 rw [if_neg h1, if_neg h1]
 by_cases h2 : mi > 1
 ·rw [if_pos h2, if_pos h2]; exact bad
 rw [if_neg h2, if_neg h2, Rfields_ev B (by omega) fs (by omega) hs _ (by omega), Option.bind_some]
 by_cases h3 : fs.length > 20
 ·rw [if_pos h3, decide_eq_false (by omega), Bool.and_false]; exact bad
 rw [if_neg h3, decide_eq_true (by omega), Bool.and_true]
 by_cases h4 : fs.any badF = true
 ·rw [if_pos h4, h4]; exact bad
 have h4' : fs.any badF = false := by simpa using h4
 rw [if_neg h4, h4', lockageref06_Right.j0, if_neg (by decide)]
 cases ans with
 | true =>
  rw [if_pos rfl, if_pos rfl, toList_data, toList_data]
  by_cases h5 : m.data.toList = []
  ·rw [if_pos h5, decide_eq_true h5, Bool.true_and]
   by_cases h6 : t.data.toList = []
   ·rw [if_pos h6, decide_eq_true h6, Bool.true_and]
    by_cases h7 : st ≥ 100
    ·rw [if_pos h7, decide_eq_true (show 100 ≤ st from h7), Bool.true_and]
     by_cases h8 : st ≤ 599
     ·rw [if_pos h8, decide_eq_true h8, Bool.true_and, Rreason_ev rs (by omega) k (by omega), Option.bind_some]
     ·rw [if_neg h8, decide_eq_false h8, Bool.false_and]
    ·rw [if_neg h7, decide_eq_false (show ¬ 100 ≤ st from h7), Bool.false_and, Bool.false_and]
   ·rw [if_neg h6, decide_eq_false h6, Bool.false_and]
  ·rw [if_neg h5, decide_eq_false h5, Bool.false_and]
 | false =>
  have hft : ¬ ((false : Bool) = true) := by decide
  rw [if_neg hft, if_neg hft, RefName_ev m (by omega) k (by omega), Option.bind_some]
  cases Sp.nameB m.data.toList with
  | false => rw [if_neg hft, Bool.false_and]
  | true =>
   rw [if_pos rfl, Rtarget_ev t (by omega) k (by omega), Option.bind_some, Bool.true_and]
   cases targetS t.data.toList with
   | false => rw [if_neg hft, Bool.false_and]
   | true =>
    have e6 : (rs.data.toList == []) = decide (rs.data.toList = []) := by cases rs.data.toList <;> rfl
    rw [if_pos rfl, Bool.true_and, toList_data, e6]
    by_cases h5 : st = 0
    ·rw [if_pos h5, decide_eq_true h5, Bool.true_and]
    ·rw [if_neg h5, decide_eq_false h5, Bool.false_and]
theorem mkL_app (a b : List UInt8) : mkL a ++ mkL b = mkL (a ++ b) := H.ba_ext (by rw [ByteArray.data_append, Array.toList_append]; rfl)
theorem join_last (x : List UInt8) (r : List (List UInt8)) (y : List UInt8) : Lib.join (x :: r ++ [y]) [13, 10] = Lib.join (x :: r) [13, 10] ++ 13 :: 10 :: y := by
 rw [List.cons_append, Lib.join_cons, Lib.join_cons]
 simp [Lib.joinTail]
theorem RText_l0 (fs : List S37) (hs : ∀ f ∈ fs, f.f0.size ≤ 1000000 ∧ f.f1.size ≤ 1000000) (hl : fs.length ≤ 1000000) (x : List UInt8) (hx : x.length ≤ 10000000) (m t : ByteArray) (st : Int) (rs : ByteArray) (mi : Int) (d : Nat) :
  ∀ (i k : Nat), fs.length - i = d → i ≤ fs.length → d + 1 ≤ k →
   lockageref06_Text.l0 k (mkL (Lib.join (x :: (fs.take i).map fldS) [13, 10] ++ [13, 10])) i m t st rs mi fs = some (mkL (Lib.join (x :: fs.map fldS) [13, 10] ++ [13, 10, 13, 10])) := by
 have hlen : ∀ i, i ≤ fs.length → (Lib.join (x :: (fs.take i).map fldS) [13, 10]).length ≤ 10000000 + 2 * fs.length + fs.length * 2000002 := by
  intro i hi
  have h1 := lens_fs 1000000 (fs.take i) (fun f hf => hs f (List.mem_of_mem_take hf))
  have h2 : (fs.take i).length ≤ fs.length := by rw [List.length_take]; omega
  have h3 : (fs.take i).length * (2 * 1000000 + 2) ≤ fs.length * (2 * 1000000 + 2) := Nat.mul_le_mul_right _ h2
  rw [join_len, List.length_map]
  show x.length + (2 * (fs.take i).length + _) ≤ _
  omega
 have hbig : fs.length * 2000002 ≤ 1000000 * 2000002 := Nat.mul_le_mul_right _ hl
 induction d with
 | zero =>
  intro i k hd hi hk
  obtain ⟨k, rfl⟩ : ∃ j, k = j + 1 := ⟨k - 1, by omega⟩
  have h1 := hlen i hi
  have e : (mkL (Lib.join (x :: (fs.take i).map fldS) [13, 10] ++ [13, 10])).size ≤ 3000000000000000 := by rw [mkL_size, List.length_append]; show _ + 2 ≤ _; omega
  rw [lockageref06_Text.l0, if_neg (by omega), if_pos (by omega)]
  have : mkL [13, 10] = (⟨#[13, 10]⟩ : ByteArray) := rfl
  rw [← this, mkL_app, List.append_assoc, List.take_of_length_le (by omega)]
  rfl
 | succ d ih =>
  intro i k hd hi hk
  obtain ⟨k, rfl⟩ : ∃ j, k = j + 1 := ⟨k - 1, by omega⟩
  have hlt : i < fs.length := by omega
  have hrd : rd_T37 fs (i : Int) = fs[i] := by simp [rd_T37, hlt]
  have h1 := hs fs[i] (List.getElem_mem hlt)
  have h2 := hlen i hi
  obtain ⟨X, hX⟩ : ∃ X, X = mkL (Lib.join (x :: (fs.take i).map fldS) [13, 10] ++ [13, 10]) := ⟨_, rfl⟩
  have e : X.size ≤ 3000000000000000 := by rw [hX, mkL_size, List.length_append]; show _ + 2 ≤ _; omega
  have s1 : (X ++ fs[i].f0).size = X.size + fs[i].f0.size := ByteArray.size_append
  have s2 : ((X ++ fs[i].f0) ++ (⟨#[58, 32]⟩ : ByteArray)).size = X.size + fs[i].f0.size + 2 := by rw [ByteArray.size_append, s1]; rfl
  have s3 : (((X ++ fs[i].f0) ++ (⟨#[58, 32]⟩ : ByteArray)) ++ fs[i].f1).size = X.size + fs[i].f0.size + 2 + fs[i].f1.size := by rw [ByteArray.size_append, s2]
  have eX : ((((X ++ fs[i].f0) ++ (⟨#[58, 32]⟩ : ByteArray)) ++ fs[i].f1) ++ (⟨#[13, 10]⟩ : ByteArray)) = mkL (Lib.join (x :: (fs.take (i + 1)).map fldS) [13, 10] ++ [13, 10]) := by
   have et : x :: (fs.take (i + 1)).map fldS = x :: (fs.take i).map fldS ++ [fldS fs[i]] := by
    rw [List.take_succ_eq_append_getElem hlt, List.map_append]
    rfl
   rw [et, join_last, hX]
   refine H.ba_ext ?_
   simp only [ByteArray.data_append, Array.toList_append, mkL_data, fldS]
   simp
  rw [← hX, lockageref06_Text.l0, if_pos (by omega), if_pos (by omega), hrd, if_pos (by omega), if_pos (by omega), if_pos (by omega), if_pos (by omega), eX, wrap_nx i (by omega)]
  exact ih (i + 1) k (by omega) (by omega) (by omega)
theorem RText_ev (m t : ByteArray) (st : Int) (rs : ByteArray) (mi : Int) (fs : List S37) (ans : Bool) (hm : m.size ≤ 1000000) (ht : t.size ≤ 1000000) (hr : rs.size ≤ 1000000) (hl : fs.length ≤ 1000000) (hs : ∀ f ∈ fs, f.f0.size ≤ 1000000 ∧ f.f1.size ≤ 1000000) (hmi : 0 ≤ mi ∧ mi ≤ 1) (hst : 0 ≤ st ∧ st ≤ 600) (k : Nat) (hk : fs.length + 200 ≤ k) :
  lockageref06_Text.f k m t st rs mi fs ans = some (mkL (bodyS ans m t st rs mi fs ++ [13, 10, 13, 10])) := by
 obtain ⟨k, rfl⟩ : ∃ j, k = j + 1 := ⟨k - 1, by omega⟩
 have d1 := decL_small mi (by omega) (by omega)
 have d2 := decL_small st (by omega) (by omega)
 have z1 : (H.text10 mi).size ≤ 3 := by rw [← size_data]; exact d1
 have z2 : (H.text10 st).size ≤ 3 := by rw [← size_data]; exact d2
 obtain ⟨V, hV⟩ : ∃ V, V = (⟨#[72, 84, 84, 80, 47, 49, 46]⟩ : ByteArray) ++ H.text10 mi := ⟨_, rfl⟩
 have sV : V.size ≤ 10 := by rw [hV, ByteArray.size_append]; show 7 + _ ≤ _; omega
 have eV : V = mkL (http1 ++ decL mi) := by rw [hV]; exact H.ba_ext (by rw [ByteArray.data_append, Array.toList_append, mkL_data]; rfl)
 have s1 : (m ++ (⟨#[32]⟩ : ByteArray)).size = m.size + 1 := by rw [ByteArray.size_append]; rfl
 have s2 : ((m ++ (⟨#[32]⟩ : ByteArray)) ++ t).size = m.size + 1 + t.size := by rw [ByteArray.size_append, s1]
 have s3 : (((m ++ (⟨#[32]⟩ : ByteArray)) ++ t) ++ (⟨#[32]⟩ : ByteArray)).size = m.size + 1 + t.size + 1 := by rw [ByteArray.size_append, s2]; rfl
 have s4 : ((((m ++ (⟨#[32]⟩ : ByteArray)) ++ t) ++ (⟨#[32]⟩ : ByteArray)) ++ V).size = m.size + 1 + t.size + 1 + V.size := by rw [ByteArray.size_append, s3]
 have fin : ∀ (x : List UInt8), x.length ≤ 10000000 → lockageref06_Text.j0 (k + 1) (mkL (x ++ [13, 10])) m t st rs mi fs = some (mkL (Lib.join (x :: fs.map fldS) [13, 10] ++ [13, 10, 13, 10])) := by
  intro x hx
  rw [lockageref06_Text.j0]
  have := RText_l0 fs hs hl x hx m t st rs mi fs.length 0 k (Nat.sub_zero _) (Nat.zero_le _) (by omega)
  have e0 : Lib.join (x :: (fs.take 0).map fldS) [13, 10] = x := Lib.join_one _ _
  rw [e0] at this
  exact this
 unfold lockageref06_Text.f
 rw [(both_text mi (by omega) (by omega)).2.2 _ (by omega), Option.bind_some, if_pos (by omega), ← hV, if_pos (by omega), if_pos (by omega), if_pos (by omega), if_pos (by omega), if_pos (by omega)]
 unfold bodyS lineS
 cases ans with
 | true =>
  have t1 : (V ++ (⟨#[32]⟩ : ByteArray)).size = V.size + 1 := by rw [ByteArray.size_append]; rfl
  have t2 : ((V ++ (⟨#[32]⟩ : ByteArray)) ++ H.text10 st).size = V.size + 1 + (H.text10 st).size := by rw [ByteArray.size_append, t1]
  have t3 : (((V ++ (⟨#[32]⟩ : ByteArray)) ++ H.text10 st) ++ (⟨#[32]⟩ : ByteArray)).size = V.size + 1 + (H.text10 st).size + 1 := by rw [ByteArray.size_append, t2]; rfl
  have t4 : ((((V ++ (⟨#[32]⟩ : ByteArray)) ++ H.text10 st) ++ (⟨#[32]⟩ : ByteArray)) ++ rs).size = V.size + 1 + (H.text10 st).size + 1 + rs.size := by rw [ByteArray.size_append, t3]
  rw [if_pos rfl, if_pos rfl, if_pos (by omega), (both_text st (by omega) (by omega)).2.2 _ (by omega), Option.bind_some, if_pos (by omega), if_pos (by omega), if_pos (by omega), if_pos (by omega)]
  have := fin ((http1 ++ decL mi) ++ 32 :: (decL st ++ 32 :: rs.data.toList)) (by
   have := size_data rs
   have : (http1 ++ decL mi).length ≤ 10 := by rw [List.length_append]; show 7 + _ ≤ _; omega
   simp only [List.length_append, List.length_cons] at *
   omega)
  rw [← this]
  congr 1
  rw [eV]
  refine H.ba_ext ?_
  simp only [ByteArray.data_append, Array.toList_append, mkL_data]
  simp [decL]
 | false =>
  have hft : ¬ ((false : Bool) = true) := by decide
  rw [if_neg hft, if_neg hft]
  have := fin (m.data.toList ++ 32 :: (t.data.toList ++ 32 :: (http1 ++ decL mi))) (by
   have := size_data m
   have := size_data t
   have : (http1 ++ decL mi).length ≤ 10 := by rw [List.length_append]; show 7 + _ ≤ _; omega
   simp only [List.length_append, List.length_cons] at *
   omega)
  rw [← this]
  congr 1
  rw [eV]
  refine H.ba_ext ?_
  simp only [ByteArray.data_append, Array.toList_append, mkL_data]
  simp
theorem RPrint_ev (m t : ByteArray) (st : Int) (rs : ByteArray) (mi : Int) (fs : List S37) (ans : Bool) (hm : m.size ≤ 100000) (ht : t.size ≤ 100000) (hr : rs.size ≤ 100000) (hl : fs.length ≤ 100000) (hs : ∀ f ∈ fs, f.f0.size ≤ 100000 ∧ f.f1.size ≤ 100000) (k : Nat) (hk : 700000 ≤ k) :
  lockageref06_Print.f k m t st rs mi fs ans = some (if rightS m t st rs mi fs ans = true then (if (bodyS ans m t st rs mi fs).length > 2000 then (⟨#[]⟩, 2) else (mkL (bodyS ans m t st rs mi fs ++ [13, 10, 13, 10]), 0)) else (⟨#[]⟩, 1)) := by
 unfold lockageref06_Print.f
 rw [RRight_ev 100000 (by decide) m t st rs mi fs ans hm ht hr (by omega) hs k (by omega), Option.bind_some]
 cases hR : rightS m t st rs mi fs ans with
 | false => rw [if_neg (by decide), if_neg (by decide)]
 | true =>
  obtain ⟨g1, g2, g3, g4, g5⟩ := right_parts hR
  have hst : 0 ≤ st ∧ st ≤ 600 := by
   cases ans with
   | true => rw [if_pos rfl] at g5; omega
   | false =>
    have hft : ¬ ((false : Bool) = true) := by decide
    rw [if_neg hft] at g5
    omega
  have hb := body_len m t st rs mi fs ans hR
  have hln := lens_good fs g4
  have hmul : fs.length * 242 ≤ 20 * 242 := Nat.mul_le_mul_right _ g3
  obtain ⟨w1, w2⟩ := cut4 (bodyS ans m t st rs mi fs) (by omega)
  rw [if_pos rfl, if_pos rfl, RText_ev m t st rs mi fs ans (by omega) (by omega) (by omega) (by omega) (fun f hf => by have := hs f hf; omega) (by omega) hst k (by omega), Option.bind_some, w1]
  by_cases h : (bodyS ans m t st rs mi fs).length > 2000
  ·rw [if_pos (by omega), if_pos h]
  ·rw [if_neg (by omega), if_neg h]
theorem same_ok (x : ByteArray) (k : Nat) (hk : 800000 ≤ k) : lockagelaw06_same.f k x = some true := by
 obtain ⟨k, rfl⟩ : ∃ j, k = j + 3 := ⟨k - 3, by omega⟩
 have one : ∀ (ans : Bool) (k : Nat) (r : Option Bool), 750000 ≤ k → r = some true → ((head_Parse.f k x ans).bind fun a => (lockageref06_Parse.f k x ans).bind fun b => (lockageref06_Same.f k a.1 a.2.1 a.2.2.1 a.2.2.2.1 a.2.2.2.2.1 a.2.2.2.2.2.1 b.1 b.2.1 b.2.2.1 b.2.2.2.1 b.2.2.2.2.1 b.2.2.2.2.2.1).bind fun t => if t = true then (if a.2.2.2.2.2.2 = b.2.2.2.2.2.2 then r else none) else none) = some true := by
  intro ans k r hk hr
  rw [Parse_ok x ans k (by omega), RParse_ok x ans k (by omega), Option.bind_some, Option.bind_some]
  have hl : (parseH ans x.data.toList).2.2.2.2.2.1.length ≤ 1000 := by
   by_cases h0 : (parseH ans x.data.toList).2.2.2.2.2.2 = 0
   ·obtain ⟨m, t, st, rs, mi, fs, h1, hr, _⟩ := parse_right ans x.data.toList h0
    rw [h1]
    have := (right_parts hr).2.2.1
    show fs.length ≤ 1000
    omega
   ·obtain ⟨e, _, hz⟩ := parse_zero ans x.data.toList h0
    rw [hz]
    exact Nat.zero_le _
  rw [Same06_ev _ _ _ _ _ _ hl k (by omega), Option.bind_some, if_pos rfl, if_pos rfl, hr]
 unfold lockagelaw06_same.f
 rw [Option.bind_some]
 show lockagelaw06_same.l0 (k + 3) x [false, true] 2 0 = _
 rw [lockagelaw06_same.l0, if_pos (by decide), if_pos (by decide), if_pos (by decide)]
 refine one false (k + 2) _ (by omega) ?_
 rw [show wrap64 (0 + 1) = 1 from by unfold wrap64; omega, lockagelaw06_same.l0, if_pos (by decide), if_pos (by decide), if_pos (by decide)]
 refine one true (k + 1) _ (by omega) ?_
 rw [show wrap64 (1 + 1) = 2 from by unfold wrap64; omega, lockagelaw06_same.l0, if_neg (by decide)]
theorem told_ok (m t : ByteArray) (st : Int) (rs : ByteArray) (mi : Int) (fs : List S37) (hm : m.size ≤ 100000) (ht : t.size ≤ 100000) (hr : rs.size ≤ 100000) (hl : fs.length ≤ 100000) (hs : ∀ f ∈ fs, f.f0.size ≤ 100000 ∧ f.f1.size ≤ 100000) (k : Nat) (hk : 800000 ≤ k) : lockagelaw06_told.f k m t st rs mi fs = some true := by
 obtain ⟨k, rfl⟩ : ∃ j, k = j + 5 := ⟨k - 5, by omega⟩
 have hsm : smallF fs = true := by
  unfold smallF
  rw [List.all_eq_true]
  intro y hy
  have := hs y hy
  simp only [Bool.and_eq_true, decide_eq_true_eq]
  omega
 have one : ∀ (ans : Bool) (i : Int) (k : Nat), 750000 ≤ k → lockagelaw06_told.j1 k [false, true] 2 i false m t st rs mi fs = some true → ((head_Print.f k m t st rs mi fs ans).bind fun a => (lockageref06_Print.f k m t st rs mi fs ans).bind fun b => if a.1.toList = b.1.toList then (if a.2 = b.2 then ((head_Right.f k m t st rs mi fs ans).bind fun c => (lockageref06_Right.f k m t st rs mi fs ans).bind fun d => lockagelaw06_told.j1 k [false, true] 2 i (c != d) m t st rs mi fs) else lockagelaw06_told.j1 k [false, true] 2 i true m t st rs mi fs) else lockagelaw06_told.j1 k [false, true] 2 i true m t st rs mi fs) = some true := by
  intro ans i k hk h
  rw [Print_ev m t st rs mi fs ans hm ht hr hs k (by omega), RPrint_ev m t st rs mi fs ans hm ht hr hl hs k (by omega), Option.bind_some, Option.bind_some, if_pos rfl, if_pos rfl, Right_ev m t st rs mi fs ans (by omega) (by omega) (by omega) hsm k (by omega), RRight_ev 100000 (by decide) m t st rs mi fs ans hm ht hr (by omega) hs k (by omega), Option.bind_some, Option.bind_some, bne_self_eq_false]
  exact h
 unfold lockagelaw06_told.f
 rw [Option.bind_some]
 show lockagelaw06_told.l0 (k + 5) [false, true] 2 0 m t st rs mi fs = _
 rw [lockagelaw06_told.l0, if_pos (by decide), if_pos (by decide), if_pos (by decide)]
 refine one false 0 (k + 4) (by omega) ?_
 rw [lockagelaw06_told.j1, if_neg (by decide)]
 rw [show wrap64 (0 + 1) = 1 from by unfold wrap64; omega, lockagelaw06_told.l0, if_pos (by decide), if_pos (by decide), if_pos (by decide)]
 refine one true 1 (k + 2) (by omega) ?_
 rw [lockagelaw06_told.j1, if_neg (by decide)]
 rw [show wrap64 (1 + 1) = 2 from by unfold wrap64; omega, lockagelaw06_told.l0, if_neg (by decide)]
end Go.Proofs.YtemhokkfefidlaaGreatDoor.P
namespace Go.Proofs.YtemhokkfefidlaaGreatDoor.P
open Go.RowKit Go.Proofs.YtemhokkfefidlaaGreatDoorW.PrintWords Go.Proofs.YtemhokkfefidlaaGreatDoorW.PrintLast Go.Proofs.YtemhokkfefidlaaGreatDoorW.PrintMore
theorem cut4_body (b : List UInt8) : (mkL (b ++ [13, 10, 13, 10])).extract 0 b.length = mkL b := by
 rw [ext_to, mkL_data, List.take_left' rfl]
 rfl
theorem u8_in6 {n : Int} (h : (Lit.int .u8 n).wf = true) : 0 ≤ n ∧ n ≤ 255 := by
 unfold Lit.wf at h
 simp [IntKind.min, IntKind.max, IntKind.signed, IntKind.bits] at h
 omega
end Go.Proofs.YtemhokkfefidlaaGreatDoor.P
namespace Go.Proofs.YtemhokkfefidlaaGreatDoor.P
open Go.RowKit Go.Proofs.YtemhokkfefidlaaGreatDoorW.PrintWords Go.Proofs.YtemhokkfefidlaaGreatDoorW.PrintLast Go.Proofs.YtemhokkfefidlaaGreatDoorW.PrintMore
theorem tmod_in (n m : Int) (h : 0 ≤ n) (hm : 0 < m) : 0 ≤ Int.tmod n m ∧ Int.tmod n m < m := ⟨Int.tmod_nonneg m h, Int.tmod_lt_of_pos n hm⟩
theorem wrap_u8 {n : Int} (h : (Lit.int .u8 n).wf = true) : wrap64 n = n := by
 have := u8_in6 h
 unfold wrap64
 omega
theorem body_pos (ans : Bool) (m t : ByteArray) (st : Int) (rs : ByteArray) (mi : Int) (fs : List S37) : 0 < (bodyS ans m t st rs mi fs).length := by
 have : 0 < (lineS ans m.data.toList t.data.toList st rs.data.toList mi).length := by
  unfold lineS
  cases ans with
  | true => rw [if_pos rfl, List.length_append, List.length_cons]; omega
  | false => rw [if_neg (by decide), List.length_append, List.length_cons]; omega
 unfold bodyS
 rw [join_len]
 omega
def mtab6 : List ByteArray := [(⟨#[32]⟩ : ByteArray), (⟨#[58]⟩ : ByteArray), (⟨#[13, 10]⟩ : ByteArray), (⟨#[13]⟩ : ByteArray), (⟨#[10]⟩ : ByteArray), (⟨#[49]⟩ : ByteArray), (⟨#[44]⟩ : ByteArray), (⟨#[9]⟩ : ByteArray)]
theorem mtab6_small (j : Nat) (hj : j < 8) : (mtab6.getD j ByteArray.empty).size ≤ 2 := by
 have a : ((List.range 8).all fun j => decide ((mtab6.getD j ByteArray.empty).size ≤ 2)) = true := by kernel_rfl
 rw [List.all_eq_true] at a
 simpa using a j (List.mem_range.2 hj)
theorem HeadMade_ok (l : List Int) (y0 : l.length * 1 ≤ 140737488351232) (hl : ∀ x ∈ l, (Lit.int .u8 x).wf = true) (a1 : Bool) (a2 : Int) (w2 : (Lit.int .u8 a2).wf = true) (a3 : Int) (w3 : (Lit.int .u8 a3).wf = true) (a4 : Int) (w4 : (Lit.int .u8 a4).wf = true) : ∃ k, lockagelaw06_HeadMade.f k l a1 a2 a3 a4 = some true := by
 obtain ⟨m, t, st, rs, mi, fs, h1, hr, hb⟩ := made_right l (by omega) hl a1
 obtain ⟨s1, s2, s3, s4⟩ := right_sizes hr
 obtain ⟨g1, g2, g3, _, g5⟩ := right_parts hr
 have hst : 0 ≤ st ∧ st ≤ 600 := by
  cases a1 with
  | true => rw [if_pos rfl] at g5; omega
  | false =>
   have hft : ¬ ((false : Bool) = true) := by decide
   rw [if_neg hft] at g5
   omega
 have hT := RText_ev m t st rs mi fs a1 (by omega) (by omega) (by omega) (by omega) (fun f hf => by have := s4 f hf; omega) (by omega) hst 900010 (by omega)
 obtain ⟨u1, u2⟩ := cut4 (bodyS a1 m t st rs mi fs) (by omega)
 have hpos := body_pos a1 m t st rs mi fs
 have hsz : (mkL (bodyS a1 m t st rs mi fs)).size = (bodyS a1 m t st rs mi fs).length := mkL_size _
 have fin : ∀ B X : ByteArray, lockagelaw06_HeadMade.j0 900010 B X m t st rs mi fs = some true := by
  intro B X
  rw [lockagelaw06_HeadMade.j0, awake_ok _ (by decide), Option.bind_some, if_pos rfl, told_ok m t st rs mi fs s1 s2 s3 (by omega) s4 _ (by decide), Option.bind_some, if_pos rfl, same_ok B _ (by decide), Option.bind_some, if_pos rfl, same_ok X _ (by decide), Option.bind_some]
 refine ⟨900010, ?_⟩
 unfold lockagelaw06_HeadMade.f
 rw [h1 _ (by decide), Option.bind_some]
 dsimp only
 rw [hT, Option.bind_some, u1, if_pos (by omega), if_pos (by rw [u2]; omega), Int.toNat_natCast, cut4_body]
 obtain ⟨B, hB⟩ : ∃ B, mkL (bodyS a1 m t st rs mi fs) = B := ⟨_, rfl⟩
 rw [hB] at hsz ⊢
 have hq1 := tmod_in a2 (B.size : Int) (u8_in6 w2).1 (by omega)
 obtain ⟨q, hq⟩ : ∃ q : Nat, Int.tmod a2 (B.size : Int) = (q : Int) := ⟨(Int.tmod a2 (B.size : Int)).toNat, by omega⟩
 have hp1 := tmod_in a3 8 (u8_in6 w3).1 (by decide)
 obtain ⟨p, hp⟩ : ∃ p : Nat, Int.tmod a3 8 = (p : Int) := ⟨(Int.tmod a3 8).toNat, by omega⟩
 have hs : (rdOf ByteArray.empty mtab6 (p : Int)).size ≤ 2 := by
  have := mtab6_small p (by omega)
  unfold rdOf
  simpa using this
 have e1 : (B.extract 0 q).size ≤ 1800 := by rw [ByteArray.size_extract]; omega
 have e2 : (B.extract (q + 1) B.size).size ≤ 1800 := by rw [ByteArray.size_extract]; omega
 have e3 : (B.extract q B.size).size ≤ 1800 := by rw [ByteArray.size_extract]; omega
 have e4 : (strOfNums [a3]).size = 1 := strOfNums_size _
 have e5 : (B.extract 0 q ++ strOfNums [a3]).size ≤ 1801 := by rw [ByteArray.size_append]; omega
 rw [wrap_u8 w2, hq, if_neg (by omega), if_pos (by omega), if_pos (by omega), Option.bind_some, Int.toNat_natCast, wrap_nx q (by omega), if_pos (by omega), if_pos (by omega), if_pos (by omega), Int.toNat_natCast, if_pos (by omega)]
 by_cases c1 : Int.tmod a4 4 = 1
 ·rw [if_pos c1, if_pos (by omega)]
  exact fin _ _
 rw [if_neg c1]
 by_cases c2 : Int.tmod a4 4 = 2
 ·rw [if_pos c2]
  exact fin _ _
 rw [if_neg c2]
 by_cases c3 : Int.tmod a4 4 = 3
 ·rw [if_pos c3, Option.bind_some, wrap_u8 w3, hp, if_pos (by omega), if_pos (by show (p : Int) < 8; omega)]
  show (if (B.extract 0 q).size + (rdOf ByteArray.empty mtab6 (p : Int)).size ≤ 9223372036854775807 then (if (B.extract 0 q ++ rdOf ByteArray.empty mtab6 (p : Int)).size + (B.extract q B.size).size ≤ 9223372036854775807 then _ else none) else none) = _
  rw [if_pos (by omega), if_pos (by rw [ByteArray.size_append]; omega)]
  exact fin _ _
 ·rw [if_neg c3]
  exact fin _ _
end Go.Proofs.YtemhokkfefidlaaGreatDoor.P
