/- Several parts together: Plain facts about the plain functions of header fields: small letters, trimming, names, cutting; lists of bytes alone; What the printed functions of header fields come to: names, values, what a name has; plain Lean, no program; What the reference functions of header fields come to: small letters, what a name has; plain Lean, no program; What the reference functions of header fields come to, of any texts: names, blanks, trimming, values; plain Lean, no program; Numbers of sixteen digits: num.Parse and the reference's Parse come to the same, of any text; plain Lean, no program. -/
import Derived.Test.YthemlbefkdmegaaDoorHA
import Derived.Test.YthemlbefkdmegaaDoorHD
import Derived.Test.YthemlbefkdmegaaDoorHN
import Derived.Lib.LazyBuf
import Derived.Test.YthemlbefkdmegaaDoorPx2
namespace Go.Proofs.YthemlbefkdmegaaDoor.Sp
theorem lowC_idem (c : UInt8) : lowC (lowC c) = lowC c := by
  unfold lowC
  by_cases h : 65 ≤ c ∧ c ≤ 90
  · have h1 : (decide (65 ≤ c) && decide (c ≤ 90)) = true := by simp [h]
    have h2 : ¬ (65 ≤ c + 32 ∧ c + 32 ≤ 90) := by
      obtain ⟨a, b⟩ := h
      rw [UInt8.le_iff_toNat_le] at a b
      rw [UInt8.le_iff_toNat_le, UInt8.le_iff_toNat_le, UInt8.toNat_add]
      simp at a b ⊢
      omega
    simp only [h1, if_true]
    rw [if_neg (by simpa using h2)]
  · have h1 : (decide (65 ≤ c) && decide (c ≤ 90)) = false := by simpa using h
    simp only [h1, Bool.false_eq_true, if_false]
theorem lower_idem (l : List UInt8) : lower (lower l) = lower l := by
  unfold lower
  rw [List.map_map]
  exact List.map_congr_left fun c _ => lowC_idem c
theorem lower_length (l : List UInt8) : (lower l).length = l.length := by unfold lower; rw [List.length_map]

theorem dropWhile_last {p : UInt8 → Bool} : ∀ {l : List UInt8} {b : UInt8}, (l.dropWhile p).getLast? = some b → l.getLast? = some b
  | [], _, h => by simp at h
  | c :: l, b, h => by
    rw [List.dropWhile_cons] at h
    split at h
    · have := dropWhile_last h
      rw [List.getLast?_cons, this]
      rfl
    · exact h
theorem right_fix {cs l : List UInt8} (h : ∀ b, l.getLast? = some b → cs.contains b = false) : Lib.trimRightS l cs = l := by
  unfold Lib.trimRightS
  rw [← List.head?_reverse] at h
  have e : l.reverse.dropWhile (cs.contains ·) = l.reverse := by
    cases hr : l.reverse with
    | nil => rfl
    | cons b t =>
      rw [hr] at h
      rw [List.dropWhile_cons, if_neg (by rw [h b rfl]; exact Bool.false_ne_true)]
  rw [e, List.reverse_reverse]
theorem right_last {cs l : List UInt8} {b : UInt8} (h : (Lib.trimRightS l cs).getLast? = some b) : cs.contains b = false := by
  unfold Lib.trimRightS at h
  rw [List.getLast?_reverse] at h
  have := List.head?_dropWhile_not (cs.contains ·) l.reverse
  rw [h] at this
  exact this
theorem left_idem (cs l : List UInt8) : Lib.trimLeftS (Lib.trimLeftS l cs) cs = Lib.trimLeftS l cs := by
  unfold Lib.trimLeftS
  cases h : l.dropWhile (cs.contains ·) with
  | nil => rfl
  | cons b t =>
    have := List.head?_dropWhile_not (cs.contains ·) l
    rw [h] at this
    rw [List.dropWhile_cons, if_neg]
    intro e
    have h2 : cs.contains b = false := this
    rw [h2] at e
    exact Bool.false_ne_true e
theorem trim_idem (l : List UInt8) : trim (trim l) = trim l := by
  unfold trim Lib.trimS
  rw [right_fix (l := Lib.trimLeftS (Lib.trimRightS l [32, 9]) [32, 9])]
  · exact left_idem _ _
  · intro b hb
    exact right_last (dropWhile_last hb)
theorem dropWhile_snoc {p : UInt8 → Bool} {c : UInt8} (hc : p c = true) : ∀ l : List UInt8, (l ++ [c]).dropWhile p = if (l.dropWhile p).isEmpty then [] else l.dropWhile p ++ [c]
  | [] => by simp [hc]
  | b :: l => by
    rw [List.cons_append, List.dropWhile_cons, List.dropWhile_cons]
    split
    · exact dropWhile_snoc hc l
    · simp
theorem trim_blank {c : UInt8} (hc : ([32, 9] : List UInt8).contains c = true) (l : List UInt8) : trim (c :: l) = trim l := by
  unfold trim Lib.trimS
  have e : Lib.trimRightS (c :: l) [32, 9] = if (Lib.trimRightS l [32, 9]).isEmpty then [] else c :: Lib.trimRightS l [32, 9] := by
    unfold Lib.trimRightS
    rw [List.reverse_cons, dropWhile_snoc (p := (([32, 9] : List UInt8).contains ·)) hc, List.isEmpty_reverse]
    split
    · rfl
    · rw [List.reverse_append]
      rfl
  rw [e]
  split
  · rename_i h
    rw [List.isEmpty_iff] at h
    rw [h]
  · unfold Lib.trimLeftS
    rw [List.dropWhile_cons, if_pos hc]
theorem trim_length (l : List UInt8) : (trim l).length ≤ l.length := by
  unfold trim Lib.trimS Lib.trimLeftS Lib.trimRightS
  have h1 := (List.dropWhile_sublist (l := (l.reverse.dropWhile (([32, 9] : List UInt8).contains ·)).reverse) (([32, 9] : List UInt8).contains ·)).length_le
  have h2 := (List.dropWhile_sublist (l := l.reverse) (([32, 9] : List UInt8).contains ·)).length_le
  rw [List.length_reverse] at h1 h2
  exact Nat.le_trans h1 h2
theorem nameC_not {c : UInt8} (h : nameC c = true) : c ≠ 58 := by rintro rfl; exact absurd h (by decide)
theorem cutL_length (c : UInt8) (l : List UInt8) : (cutL c l).length ≤ l.length := by
  unfold cutL
  split
  · exact (List.takeWhile_sublist _).length_le
  · exact Nat.le_refl _
theorem cutR_length (c : UInt8) (l : List UInt8) : (cutR c l).length ≤ l.length := by
  unfold cutR
  split
  · rw [List.length_drop]
    have := (List.dropWhile_sublist (l := l) (· != c)).length_le
    omega
  · simp
theorem take_to {c : UInt8} : ∀ {l r : List UInt8}, c ∉ l → (l ++ c :: r).takeWhile (· != c) = l
  | [], r, _ => by simp
  | b :: l, r, h => by
    have hb : (b != c) = true := by
      simp only [List.mem_cons, not_or] at h
      simp only [bne_iff_ne]
      exact fun e => h.1 e.symm
    rw [List.cons_append, List.takeWhile_cons, if_pos hb, take_to fun e => h (List.mem_cons_of_mem _ e)]
theorem drop_to {c : UInt8} : ∀ {l r : List UInt8}, c ∉ l → (l ++ c :: r).dropWhile (· != c) = c :: r
  | [], r, _ => by simp
  | b :: l, r, h => by
    have hb : (b != c) = true := by
      simp only [List.mem_cons, not_or] at h
      simp only [bne_iff_ne]
      exact fun e => h.1 e.symm
    rw [List.cons_append, List.dropWhile_cons, if_pos hb, drop_to fun e => h (List.mem_cons_of_mem _ e)]
theorem cutL_at {c : UInt8} {l r : List UInt8} (h : c ∉ l) : cutL c (l ++ c :: r) = l := by
  unfold cutL
  rw [if_pos (by simp), take_to h]
theorem cutR_at {c : UInt8} {l r : List UInt8} (h : c ∉ l) : cutR c (l ++ c :: r) = r := by
  unfold cutR
  rw [if_pos (by simp), drop_to h]
  rfl
theorem cutIs_at {c : UInt8} {l r : List UInt8} : cutIs c (l ++ c :: r) = true := by
  unfold cutIs
  simp
theorem name_no_colon {l : List UInt8} (h : nameB l = true) : (58 : UInt8) ∉ l := by
  unfold nameB allB at h
  simp only [Bool.and_eq_true, List.all_eq_true] at h
  exact fun e => nameC_not (h.2.2 _ e) rfl
theorem name_length {l : List UInt8} (h : nameB l = true) : l.length ≤ 40 := by
  unfold nameB at h
  simp only [Bool.and_eq_true, decide_eq_true_eq] at h
  exact h.2.1
theorem val_length {l : List UInt8} (h : valB l = true) : l.length ≤ 200 := by
  unfold valB at h
  simp only [Bool.and_eq_true, decide_eq_true_eq] at h
  exact h.1
theorem val_trim {l : List UInt8} (h : valB l = true) : trim l = l := by
  unfold valB at h
  simp only [Bool.and_eq_true, beq_iff_eq] at h
  exact h.2.1
end Go.Proofs.YthemlbefkdmegaaDoor.Sp
namespace Go.Proofs.YthemlbefkdmegaaDoor.P
open Go.RowKit Go.Proofs.YthemlbefkdmegaaDoorW.PrintWords Go.Proofs.YthemlbefkdmegaaDoorW.PrintLast Go.Proofs.YthemlbefkdmegaaDoorW.PrintMore

theorem size_data (s : ByteArray) : s.data.toList.length = s.size := by rw [Array.length_toList]; rfl
theorem name_f {a : ByteArray} (h : a.size ≤ 9223372036854775806) : field_Name.f a = some (Sp.nameB a.data.toList) := by unfold field_Name.f; rw [if_pos h]
theorem value_f {a : ByteArray} (h : a.size ≤ 9223372036854775806) : field_Value.f a = some (Sp.valB a.data.toList) := by unfold field_Value.f; rw [if_pos h]
theorem trim_f {a : ByteArray} (h : a.size ≤ 9223372036854775806) : field_Trim.f a = some ⟨(Sp.trim a.data.toList).toArray⟩ := by unfold field_Trim.f; rw [if_pos h]
theorem lower_f {a : ByteArray} (h : a.size ≤ 9223372036854775806) : field_Lower.f a = some ⟨(Sp.lower a.data.toList).toArray⟩ := by unfold field_Lower.f; rw [if_pos h]
theorem mk_size (l : List UInt8) : (⟨l.toArray⟩ : ByteArray).size = l.length := by show l.toArray.size = _; rw [List.size_toArray]
theorem toList_data (a : ByteArray) : a.toList = a.data.toList := ByteArray.toList_eq a
end Go.Proofs.YthemlbefkdmegaaDoor.P
namespace Go.Proofs.YthemlbefkdmegaaDoor.P
open Go.RowKit Go.Proofs.YthemlbefkdmegaaDoorW.PrintWords Go.Proofs.YthemlbefkdmegaaDoorW.PrintLast Go.Proofs.YthemlbefkdmegaaDoorW.PrintMore

theorem wrap_next (n : Nat) (h : n < 8796093022208) : wrap64 ((n : Int) + 1) = ((n + 1 : Nat) : Int) := by unfold wrap64; omega
theorem bt_low {x : ByteArray} {i : Nat} (h : i < x.size) : bt x (i : Int) = ((x.data.toList[i]'(by rw [size_data]; exact h)).toNat : Int) := by
  unfold bt
  rw [dif_pos (by simpa using h)]
  rfl
theorem one_byte (c : UInt8) : (strOfNums [(c.toNat : Int)]) = ⟨#[c]⟩ := by
  have := Lib.Lz.strOfNums_map [c]
  simpa using this
theorem low_num (c : UInt8) (h : 65 ≤ (c.toNat : Int)) (h' : (c.toNat : Int) ≤ 90) : ((c.toNat : Int) + 32) % 256 = ((Sp.lowC c).toNat : Int) := by
  unfold Sp.lowC
  have h1 : (65 : UInt8) ≤ c := by rw [UInt8.le_iff_toNat_le]; simp; omega
  have h2 : c ≤ (90 : UInt8) := by rw [UInt8.le_iff_toNat_le]; simp; omega
  rw [if_pos (by simp [h1, h2]), UInt8.toNat_add]
  simp
theorem low_same (c : UInt8) (h : ¬ (65 ≤ (c.toNat : Int) ∧ (c.toNat : Int) ≤ 90)) : Sp.lowC c = c := by
  unfold Sp.lowC
  rw [if_neg]
  intro e
  simp only [Bool.and_eq_true, decide_eq_true_eq] at e
  obtain ⟨h1, h2⟩ := e
  rw [UInt8.le_iff_toNat_le] at h1 h2
  simp at h1 h2
  omega
end Go.Proofs.YthemlbefkdmegaaDoor.P
namespace Go.Proofs.YthemlbefkdmegaaDoor.P
open Go.RowKit Go.Proofs.YthemlbefkdmegaaDoorW.PrintWords Go.Proofs.YthemlbefkdmegaaDoorW.PrintLast Go.Proofs.YthemlbefkdmegaaDoorW.PrintMore
theorem byte_all {p : Nat → Bool} (h : ((List.range 256).all p) = true) (c : UInt8) : p c.toNat = true := by
  rw [List.all_eq_true] at h
  exact h c.toNat (List.mem_range.2 c.toNat_lt)
theorem byte_back (c : UInt8) : UInt8.ofNat c.toNat = c := by simp
theorem wrap_nx (n : Nat) (h : n ≤ 9223372036854775806) : wrap64 ((n : Int) + 1) = ((n + 1 : Nat) : Int) := by unfold wrap64; omega
theorem right_snoc (l : List UInt8) (b : UInt8) : Lib.trimRightS (l ++ [b]) [32, 9] = if ([32, 9] : List UInt8).contains b = true then Lib.trimRightS l [32, 9] else l ++ [b] := by
  unfold Lib.trimRightS
  rw [List.reverse_append]
  show (List.dropWhile (([32, 9] : List UInt8).contains ·) (b :: l.reverse)).reverse = _
  rw [List.dropWhile_cons]
  split
  · rfl
  · rw [List.reverse_cons, List.reverse_reverse]
theorem right_cons (l : List UInt8) (b : UInt8) (hb : ([32, 9] : List UInt8).contains b = false) : Lib.trimRightS (b :: l) [32, 9] = b :: Lib.trimRightS l [32, 9] := by
  unfold Lib.trimRightS
  rw [List.reverse_cons]
  have : ∀ q : List UInt8, (q ++ [b]).dropWhile (([32, 9] : List UInt8).contains ·) = q.dropWhile (([32, 9] : List UInt8).contains ·) ++ [b] := by
    intro q
    induction q with
    | nil => rw [List.nil_append, List.dropWhile_cons, if_neg (by rw [hb]; exact Bool.false_ne_true)]; rfl
    | cons c q ih =>
      rw [List.cons_append, List.dropWhile_cons, List.dropWhile_cons]
      split
      · exact ih
      · rfl
  rw [this, List.reverse_append]
  rfl
theorem trim_swap : ∀ l : List UInt8, Lib.trimRightS (Lib.trimLeftS l [32, 9]) [32, 9] = Sp.trim l
  | [] => rfl
  | b :: l => by
    cases hb : ([32, 9] : List UInt8).contains b with
    | true =>
      rw [Sp.trim_blank hb, ← trim_swap l]
      unfold Lib.trimLeftS
      rw [List.dropWhile_cons, if_pos hb]
    | false =>
      unfold Sp.trim Lib.trimS
      rw [right_cons l b hb]
      unfold Lib.trimLeftS
      rw [List.dropWhile_cons, if_neg (by rw [hb]; exact Bool.false_ne_true), List.dropWhile_cons, if_neg (by rw [hb]; exact Bool.false_ne_true), right_cons l b hb]
end Go.Proofs.YthemlbefkdmegaaDoor.P
namespace Go.Proofs.YthemlbefkdmegaaDoor.P
open Go.RowKit Go.Proofs.YthemlbefkdmegaaDoorW.PrintWords Go.Proofs.YthemlbefkdmegaaDoorW.PrintLast Go.Proofs.YthemlbefkdmegaaDoorW.PrintMore
def digX (c : UInt8) : Int := if 48 ≤ c.toNat && c.toNat ≤ 57 then (c.toNat : Int) - 48 else if 97 ≤ c.toNat && c.toNat ≤ 102 then (c.toNat : Int) - 87 else if 65 ≤ c.toNat && c.toNat ≤ 70 then (c.toNat : Int) - 55 else -1
theorem digit_evx (c : UInt8) (k : Nat) (hk : 20 ≤ k) : num_digit.f k (c.toNat : Int) 16 = some (digX c) := by
  have h : ((List.range 256).all fun n => num_digit.f 20 (n : Int) 16 == some (digX (UInt8.ofNat n))) = true := by kernel_rfl
  have := byte_all h c
  rw [byte_back] at this
  exact at_rounds (num_digit.mono _ _) hk (by simpa using this)
def isHex (c : UInt8) : Bool := (48 ≤ c.toNat && c.toNat ≤ 57) || (97 ≤ c.toNat && c.toNat ≤ 102) || (65 ≤ c.toNat && c.toNat ≤ 70)
theorem digX_yes {c : UInt8} (h : isHex c = true) : 0 ≤ digX c ∧ digX c ≤ 15 := by
  have a : ((List.range 256).all fun n => !isHex (UInt8.ofNat n) || (decide (0 ≤ digX (UInt8.ofNat n)) && decide (digX (UInt8.ofNat n) ≤ 15))) = true := by kernel_rfl
  have := byte_all a c
  rw [byte_back, h] at this
  simpa using this
theorem digX_no {c : UInt8} (h : isHex c = false) : digX c = -1 := by
  have a : ((List.range 256).all fun n => isHex (UInt8.ofNat n) || decide (digX (UInt8.ofNat n) = -1)) = true := by kernel_rfl
  have := byte_all a c
  rw [byte_back, h] at this
  simpa using this
def numX : List UInt8 → Int → Option Int
  | [], n => some n
  | c :: l, n => if n * 16 + digX c ≤ 9007199254740992 then numX l (n * 16 + digX c) else none
def outX : Option Int → Int × Int
  | some n => (n, 0)
  | none => (0, 3)
def parseX (l : List UInt8) : Int × Int := if l = [] then (0, 1) else if l.all isHex = true then outX (numX l 0) else (0, 1)
theorem all_dropx (l : List UInt8) (i : Nat) (h : i < l.length) : (l.drop i).all isHex = (isHex l[i] && (l.drop (i + 1)).all isHex) := by
  rw [List.drop_eq_getElem_cons h, List.all_cons]
theorem numX_drop (l : List UInt8) (i : Nat) (h : i < l.length) (n : Int) : numX (l.drop i) n = if n * 16 + digX l[i] ≤ 9007199254740992 then numX (l.drop (i + 1)) (n * 16 + digX l[i]) else none := by
  rw [List.drop_eq_getElem_cons h]
  rfl
theorem Fits_fx (n : Int) : num_Fits.f n = some (decide (0 ≤ n) && decide (n ≤ 9007199254740992)) := by
  unfold num_Fits.f
  by_cases h : n ≥ 0
  · rw [if_pos h, decide_eq_true (show 0 ≤ n from h), Bool.true_and]
  · rw [if_neg h, decide_eq_false (show ¬ 0 ≤ n from h), Bool.false_and]
theorem wrap_ofx {n : Int} (h : -9223372036854775808 ≤ n ∧ n ≤ 9223372036854775807) : wrap64 n = n := by unfold wrap64; omega
theorem num_badx (x : ByteArray) (hx : x.size ≤ 9223372036854775806) (d : Nat) : ∀ (i k : Nat), x.size - i = d → i ≤ x.size → 2 * d + 30 ≤ k →
    num_Parse.l0 k x 16 0 3 (x.size : Int) i = some (if (x.data.toList.drop i).all isHex = true then (0, 3) else (0, 1)) := by
  have hsz := size_data x
  induction d with
  | zero =>
    intro i k hd hi hk
    obtain ⟨k, rfl⟩ : ∃ j, k = j + 1 := ⟨k - 1, by omega⟩
    unfold num_Parse.l0
    rw [if_neg (by omega), List.drop_of_length_le (by omega)]
    rfl
  | succ d ih =>
    intro i k hd hi hk
    obtain ⟨k, rfl⟩ : ∃ j, k = j + 2 := ⟨k - 2, by omega⟩
    have hlt : i < x.size := by omega
    have hl : i < x.data.toList.length := by omega
    unfold num_Parse.l0
    rw [if_pos (by omega), if_pos (by omega), if_pos (by omega), bt_low hlt, digit_evx _ (k + 1) (by omega), all_dropx _ _ hl]
    simp only [Option.bind_some]
    cases hc : isHex x.data.toList[i] with
    | false =>
      rw [if_pos (digX_no hc)]
      rfl
    | true =>
      have hv := digX_yes hc
      rw [if_neg (by omega), if_neg (by decide)]
      unfold num_Parse.j2
      rw [Fits_fx]
      simp only [Option.bind_some]
      rw [if_pos (by decide), wrap_nx i (by omega), ih (i + 1) k (by omega) (by omega) (by omega), Bool.true_and]
theorem num_goodx (x : ByteArray) (hx : x.size ≤ 9223372036854775806) (d : Nat) : ∀ (i k : Nat) (n : Int), x.size - i = d → i ≤ x.size → 2 * d + 30 ≤ k → 0 ≤ n → n ≤ 9007199254740992 →
    num_Parse.l0 k x 16 n 0 (x.size : Int) i = some (if (x.data.toList.drop i).all isHex = true then outX (numX (x.data.toList.drop i) n) else (0, 1)) := by
  have hsz := size_data x
  induction d with
  | zero =>
    intro i k n hd hi hk h0 h1
    obtain ⟨k, rfl⟩ : ∃ j, k = j + 1 := ⟨k - 1, by omega⟩
    unfold num_Parse.l0
    rw [if_neg (by omega), List.drop_of_length_le (by omega)]
    rfl
  | succ d ih =>
    intro i k n hd hi hk h0 h1
    obtain ⟨k, rfl⟩ : ∃ j, k = j + 2 := ⟨k - 2, by omega⟩
    have hlt : i < x.size := by omega
    have hl : i < x.data.toList.length := by omega
    unfold num_Parse.l0
    rw [if_pos (by omega), if_pos (by omega), if_pos (by omega), bt_low hlt, digit_evx _ (k + 1) (by omega), all_dropx _ _ hl, numX_drop _ _ hl]
    simp only [Option.bind_some]
    cases hc : isHex x.data.toList[i] with
    | false =>
      rw [if_pos (digX_no hc)]
      rfl
    | true =>
      have hv := digX_yes hc
      generalize digX x.data.toList[i] = v at hv ⊢
      rw [if_neg (by omega), if_pos trivial, wrap_ofx (n := n * 16) (by omega), wrap_ofx (n := n * 16 + v) (by omega)]
      unfold num_Parse.j2
      rw [Fits_fx, decide_eq_true (show 0 ≤ n * 16 + v by omega)]
      simp only [Option.bind_some, Bool.true_and]
      by_cases hm : n * 16 + v ≤ 9007199254740992
      · rw [if_pos (decide_eq_true hm), if_pos hm, wrap_nx i (by omega), ih (i + 1) k _ (by omega) (by omega) (by omega) (by omega) hm]
      · rw [if_neg (by simpa using hm), if_neg hm, wrap_nx i (by omega), num_badx x hx d (i + 1) k (by omega) (by omega) (by omega)]
        rfl
theorem Parse_evx (x : ByteArray) (hx : x.size ≤ 9223372036854775806) (k : Nat) (hk : 2 * x.size + 40 ≤ k) : num_Parse.f k x 16 = some (parseX x.data.toList) := by
  obtain ⟨k, rfl⟩ : ∃ j, k = j + 1 := ⟨k - 1, by omega⟩
  unfold num_Parse.f parseX
  rw [toList_data]
  by_cases h : x.data.toList = []
  · rw [if_pos h, if_pos h]
    unfold num_Parse.j0
    rfl
  · rw [if_neg h, if_neg h, if_neg (by decide)]
    unfold num_Parse.j0
    dsimp only
    rw [if_neg (by decide)]
    have := num_goodx x hx x.size 0 k 0 (Nat.sub_zero _) (Nat.zero_le _) (by omega) (by decide) (by decide)
    rw [List.drop_zero] at this
    exact this
end Go.Proofs.YthemlbefkdmegaaDoor.P
