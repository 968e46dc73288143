/- Plain facts about the plain functions of header fields: small letters, trimming, names, cutting; lists of bytes alone. -/
import Derived.Test.YtljppmpigijgaaaDoorHA
namespace Go.Proofs.YtljppmpigijgaaaDoor.Sp
theorem lowC_idem (c : UInt8) : lowC (lowC c) = lowC c := by
  unfold lowC
  by_cases h : 65 ≤ c ∧ c ≤ 90
  · have h1 : (decide (65 ≤ c) && decide (c ≤ 90)) = true := by simp [h]
    have h2 : ¬ (65 ≤ c + 32 ∧ c + 32 ≤ 90) := by
      obtain ⟨a, b⟩ := h
      rw [UInt8.le_iff_toNat_le] at a b
      rw [UInt8.le_iff_toNat_le, UInt8.le_iff_toNat_le, UInt8.toNat_add]
      simp at a b ⊢
      omega
    simp only [h1, if_true]
    rw [if_neg (by simpa using h2)]
  · have h1 : (decide (65 ≤ c) && decide (c ≤ 90)) = false := by simpa using h
    simp only [h1, Bool.false_eq_true, if_false]
theorem lower_idem (l : List UInt8) : lower (lower l) = lower l := by
  unfold lower
  rw [List.map_map]
  exact List.map_congr_left fun c _ => lowC_idem c
theorem lower_length (l : List UInt8) : (lower l).length = l.length := by unfold lower; rw [List.length_map]

theorem dropWhile_last {p : UInt8 → Bool} : ∀ {l : List UInt8} {b : UInt8}, (l.dropWhile p).getLast? = some b → l.getLast? = some b
  | [], _, h => by simp at h
  | c :: l, b, h => by
    rw [List.dropWhile_cons] at h
    split at h
    · have := dropWhile_last h
      rw [List.getLast?_cons, this]
      rfl
    · exact h
theorem right_fix {cs l : List UInt8} (h : ∀ b, l.getLast? = some b → cs.contains b = false) : Lib.trimRightS l cs = l := by
  unfold Lib.trimRightS
  rw [← List.head?_reverse] at h
  have e : l.reverse.dropWhile (cs.contains ·) = l.reverse := by
    cases hr : l.reverse with
    | nil => rfl
    | cons b t =>
      rw [hr] at h
      rw [List.dropWhile_cons, if_neg (by rw [h b rfl]; exact Bool.false_ne_true)]
  rw [e, List.reverse_reverse]
theorem right_last {cs l : List UInt8} {b : UInt8} (h : (Lib.trimRightS l cs).getLast? = some b) : cs.contains b = false := by
  unfold Lib.trimRightS at h
  rw [List.getLast?_reverse] at h
  have := List.head?_dropWhile_not (cs.contains ·) l.reverse
  rw [h] at this
  exact this
theorem left_idem (cs l : List UInt8) : Lib.trimLeftS (Lib.trimLeftS l cs) cs = Lib.trimLeftS l cs := by
  unfold Lib.trimLeftS
  cases h : l.dropWhile (cs.contains ·) with
  | nil => rfl
  | cons b t =>
    have := List.head?_dropWhile_not (cs.contains ·) l
    rw [h] at this
    rw [List.dropWhile_cons, if_neg]
    intro e
    have h2 : cs.contains b = false := this
    rw [h2] at e
    exact Bool.false_ne_true e
theorem trim_idem (l : List UInt8) : trim (trim l) = trim l := by
  unfold trim Lib.trimS
  rw [right_fix (l := Lib.trimLeftS (Lib.trimRightS l [32, 9]) [32, 9])]
  · exact left_idem _ _
  · intro b hb
    exact right_last (dropWhile_last hb)
theorem dropWhile_snoc {p : UInt8 → Bool} {c : UInt8} (hc : p c = true) : ∀ l : List UInt8, (l ++ [c]).dropWhile p = if (l.dropWhile p).isEmpty then [] else l.dropWhile p ++ [c]
  | [] => by simp [hc]
  | b :: l => by
    rw [List.cons_append, List.dropWhile_cons, List.dropWhile_cons]
    split
    · exact dropWhile_snoc hc l
    · simp
theorem trim_blank {c : UInt8} (hc : ([32, 9] : List UInt8).contains c = true) (l : List UInt8) : trim (c :: l) = trim l := by
  unfold trim Lib.trimS
  have e : Lib.trimRightS (c :: l) [32, 9] = if (Lib.trimRightS l [32, 9]).isEmpty then [] else c :: Lib.trimRightS l [32, 9] := by
    unfold Lib.trimRightS
    rw [List.reverse_cons, dropWhile_snoc (p := (([32, 9] : List UInt8).contains ·)) hc, List.isEmpty_reverse]
    split
    · rfl
    · rw [List.reverse_append]
      rfl
  rw [e]
  split
  · rename_i h
    rw [List.isEmpty_iff] at h
    rw [h]
  · unfold Lib.trimLeftS
    rw [List.dropWhile_cons, if_pos hc]
theorem trim_length (l : List UInt8) : (trim l).length ≤ l.length := by
  unfold trim Lib.trimS Lib.trimLeftS Lib.trimRightS
  have h1 := (List.dropWhile_sublist (l := (l.reverse.dropWhile (([32, 9] : List UInt8).contains ·)).reverse) (([32, 9] : List UInt8).contains ·)).length_le
  have h2 := (List.dropWhile_sublist (l := l.reverse) (([32, 9] : List UInt8).contains ·)).length_le
  rw [List.length_reverse] at h1 h2
  exact Nat.le_trans h1 h2
theorem nameC_not {c : UInt8} (h : nameC c = true) : c ≠ 58 := by rintro rfl; exact absurd h (by decide)
theorem cutL_length (c : UInt8) (l : List UInt8) : (cutL c l).length ≤ l.length := by
  unfold cutL
  split
  · exact (List.takeWhile_sublist _).length_le
  · exact Nat.le_refl _
theorem cutR_length (c : UInt8) (l : List UInt8) : (cutR c l).length ≤ l.length := by
  unfold cutR
  split
  · rw [List.length_drop]
    have := (List.dropWhile_sublist (l := l) (· != c)).length_le
    omega
  · simp
theorem take_to {c : UInt8} : ∀ {l r : List UInt8}, c ∉ l → (l ++ c :: r).takeWhile (· != c) = l
  | [], r, _ => by simp
  | b :: l, r, h => by
    have hb : (b != c) = true := by
      simp only [List.mem_cons, not_or] at h
      simp only [bne_iff_ne]
      exact fun e => h.1 e.symm
    rw [List.cons_append, List.takeWhile_cons, if_pos hb, take_to fun e => h (List.mem_cons_of_mem _ e)]
theorem drop_to {c : UInt8} : ∀ {l r : List UInt8}, c ∉ l → (l ++ c :: r).dropWhile (· != c) = c :: r
  | [], r, _ => by simp
  | b :: l, r, h => by
    have hb : (b != c) = true := by
      simp only [List.mem_cons, not_or] at h
      simp only [bne_iff_ne]
      exact fun e => h.1 e.symm
    rw [List.cons_append, List.dropWhile_cons, if_pos hb, drop_to fun e => h (List.mem_cons_of_mem _ e)]
theorem cutL_at {c : UInt8} {l r : List UInt8} (h : c ∉ l) : cutL c (l ++ c :: r) = l := by
  unfold cutL
  rw [if_pos (by simp), take_to h]
theorem cutR_at {c : UInt8} {l r : List UInt8} (h : c ∉ l) : cutR c (l ++ c :: r) = r := by
  unfold cutR
  rw [if_pos (by simp), drop_to h]
  rfl
theorem cutIs_at {c : UInt8} {l r : List UInt8} : cutIs c (l ++ c :: r) = true := by
  unfold cutIs
  simp
theorem name_no_colon {l : List UInt8} (h : nameB l = true) : (58 : UInt8) ∉ l := by
  unfold nameB allB at h
  simp only [Bool.and_eq_true, List.all_eq_true] at h
  exact fun e => nameC_not (h.2.2 _ e) rfl
theorem name_length {l : List UInt8} (h : nameB l = true) : l.length ≤ 40 := by
  unfold nameB at h
  simp only [Bool.and_eq_true, decide_eq_true_eq] at h
  exact h.2.1
theorem val_length {l : List UInt8} (h : valB l = true) : l.length ≤ 200 := by
  unfold valB at h
  simp only [Bool.and_eq_true, decide_eq_true_eq] at h
  exact h.1
theorem val_trim {l : List UInt8} (h : valB l = true) : trim l = l := by
  unfold valB at h
  simp only [Bool.and_eq_true, beq_iff_eq] at h
  exact h.2.1
end Go.Proofs.YtljppmpigijgaaaDoor.Sp
