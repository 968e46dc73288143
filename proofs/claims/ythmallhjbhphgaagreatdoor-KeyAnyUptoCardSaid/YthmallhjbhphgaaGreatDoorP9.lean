/- Several parts together: The law KeyValues answers true; plain Lean, no program; What the segments of a path, and these without dots, come to, in the reference and in the program; plain Lean, no program; A path with its escapes made alike: what the program's loop and the reference's come to, of any text; plain Lean, no program; A target made alike: the program's and the reference's Normal come to the same, of any text of at most 1000 bytes; plain Lean, no program; The reference of keys, first half: directs, Shared, add, Vary; plain Lean, no program; The reference of keys: add, Vary; plain Lean, no program; The reference of keys: Split, Fits, Key; and that program and reference say the same; plain Lean, no program. -/
import Derived.Test.YthmallhjbhphgaaGreatDoorP8
import Derived.Sort.Walk0
import Derived.Test.YthmallhjbhphgaaGreatDoorPx4
import Derived.Test.YthmallhjbhphgaaGreatDoorPx5
import Derived.Test.YthmallhjbhphgaaGreatDoorHZD
import Derived.Test.YthmallhjbhphgaaGreatDoorPx11
import Derived.Test.YthmallhjbhphgaaGreatDoorPx3
import Derived.Test.YthmallhjbhphgaaGreatDoorPx10
import Derived.Test.YthmallhjbhphgaaGreatDoorPx9
import Derived.Test.YthmallhjbhphgaaGreatDoorPx8
import Derived.Test.YthmallhjbhphgaaGreatDoorPx12
import Derived.Test.YthmallhjbhphgaaGreatDoorPx6
import Derived.Test.YthmallhjbhphgaaGreatDoorPx7
import Derived.Test.YthmallhjbhphgaaGreatDoorPx13
import Derived.Test.YthmallhjbhphgaaGreatDoorPx14
import Derived.Test.YthmallhjbhphgaaGreatDoorPx15
set_option linter.unusedVariables false
set_option linter.unusedSimpArgs false
namespace Go.Proofs.YthmallhjbhphgaaGreatDoor.P
open Go.RowKit Go.Proofs.YthmallhjbhphgaaGreatDoorW.PrintWords Go.Proofs.YthmallhjbhphgaaGreatDoorW.PrintLast Go.Proofs.YthmallhjbhphgaaGreatDoorW.PrintMore
theorem rdOf_at2 {l : List ByteArray} {j : Nat} (h : j < l.length) : rdOf ByteArray.empty l (j : Int) = l[j] := by simp [rdOf, h]
theorem Strings_gen (l m : List ByteArray) (hl : l.length < 4398046511104) (he : l.length = m.length) :
  ∀ (d i k : Nat), l.length - i = d → i ≤ l.length → d + 1 ≤ k → lockageref05_Strings.l0 k l m i = some (decide (l.drop i = m.drop i))
 | d, i, 0, hd, hi, hk => by omega
 | d, i, k + 1, hd, hi, hk => by
  unfold lockageref05_Strings.l0
  by_cases hlt : i < l.length
  ·have ew : wrap64 ((i : Int) + 1) = ((i + 1 : Nat) : Int) := by unfold wrap64; omega
   have h2 : i < m.length := by omega
   have e1 : l.drop i = l[i] :: l.drop (i + 1) := List.drop_eq_getElem_cons hlt
   have e2 : m.drop i = m[i] :: m.drop (i + 1) := List.drop_eq_getElem_cons h2
   rw [if_pos (by omega), if_pos (by omega), if_pos (by omega), rdOf_at2 hlt, rdOf_at2 h2, ew]
   by_cases e : l[i] = m[i]
   ·rw [if_pos (by rw [e]), Strings_gen l m hl he (d - 1) (i + 1) k (by omega) (by omega) (by omega), e1, e2, e]
    congr 1
    rw [decide_eq_decide]
    exact ⟨fun h => by rw [h], fun h => by injection h⟩
   ·rw [if_neg (fun h => e (H.ba_ext (by rw [toList_data, toList_data] at h; exact h)))]
    congr 1
    symm
    rw [decide_eq_false_iff_not, e1, e2]
    intro h
    injection h with h _
    exact e h
  ·rw [if_neg (by omega), List.drop_of_length_le (by omega), List.drop_of_length_le (by omega)]
   simp
theorem Strings_any (l m : List ByteArray) (hl : l.length < 4398046511104) (k : Nat) (hk : l.length + 1 ≤ k) : lockageref05_Strings.f k l m = some (decide (l = m)) := by
 unfold lockageref05_Strings.f
 by_cases e : l.length = m.length
 ·rw [if_pos (by omega)]
  have := Strings_gen l m hl e l.length 0 k (Nat.sub_zero _) (Nat.zero_le _) hk
  rw [List.drop_zero, List.drop_zero] at this
  exact this
 ·rw [if_neg (by omega), decide_eq_false (fun h => e (by rw [h]))]
end Go.Proofs.YthmallhjbhphgaaGreatDoor.P
namespace Go.Proofs.YthmallhjbhphgaaGreatDoor.P
open Go.RowKit Go.Proofs.YthmallhjbhphgaaGreatDoorW.PrintWords Go.Proofs.YthmallhjbhphgaaGreatDoorW.PrintLast Go.Proofs.YthmallhjbhphgaaGreatDoorW.PrintMore
theorem wrap_k (n : Nat) (h : n ≤ 9223372036854775806) : wrap64 ((n : Int) + 1) = ((n + 1 : Nat) : Int) := by unfold wrap64; omega
theorem drop_split (l : List UInt8) (a b : Nat) (h : a ≤ b) : l.drop a = (l.drop a).take (b - a) ++ l.drop b := by
 have := List.take_append_drop (b - a) (l.drop a)
 rw [List.drop_drop, show a + (b - a) = b by omega] at this
 exact this.symm
theorem parts_seg (seg r : List UInt8) (h : (47 : UInt8) ∉ seg) : Sp.parts 47 (seg ++ 47 :: r) = seg :: Sp.parts 47 r := by
 have hm : (47 : UInt8) ∈ seg ++ 47 :: r := by simp
 rw [H.parts_some hm]
 have e1 : (seg ++ 47 :: r).takeWhile (· != 47) = seg := by
  rw [List.takeWhile_append_of_pos (fun x hx => by
   have : x ≠ 47 := fun e => h (e ▸ hx)
   simpa using this)]
  simp
 have e2 : (seg ++ 47 :: r).dropWhile (· != 47) = 47 :: r := by
  rw [List.dropWhile_append_of_pos (fun x hx => by
   have : x ≠ 47 := fun e => h (e ▸ hx)
   simpa using this)]
  simp
 rw [e1, e2]
 rfl
theorem ext_mk (x : ByteArray) (a b : Nat) : x.extract a b = mkS ((x.data.toList.drop a).take (b - a)) := H.ba_ext (by rw [Lib.extract_data, mkS_list])
theorem Seg_l0 (x : ByteArray) (hx : x.size ≤ 1000000) : ∀ (d i fr k : Nat) (acc : List ByteArray), x.size - i = d → fr ≤ i → i ≤ x.size → acc.length ≤ i → (47 : UInt8) ∉ (x.data.toList.drop fr).take (i - fr) → d + 3 ≤ k →
  lockageref13_Segments.l0 k x acc (fr : Int) (i : Int) = some (acc ++ (Sp.parts 47 (x.data.toList.drop fr)).map H.mkB)
 | d, i, fr, 0, acc, hd, hf, hi, ha, hn, hk => by omega
 | d, i, fr, k + 1, acc, hd, hf, hi, ha, hn, hk => by
  have hs : x.data.toList.length = x.size := size_data x
  have hsp := drop_split x.data.toList fr i hf
  rw [lockageref13_Segments.l0, if_pos (by omega)]
  by_cases he : i = x.size
  ·subst he
   have e0 : x.data.toList.drop x.size = [] := List.drop_of_length_le (by omega)
   rw [e0, List.append_nil] at hsp
   obtain ⟨k, rfl⟩ : ∃ j, k = j + 1 := ⟨k - 1, by omega⟩
   rw [if_pos rfl, if_pos (by omega), if_pos (by omega), if_pos (by omega), wrap_k _ (by omega), lockageref13_Segments.l0, if_neg (by omega), Int.toNat_natCast, Int.toNat_natCast, ext_mk, ← hsp]
   rw [hsp, H.parts_none hn]
   rfl
  ·have hlt : i < x.size := by omega
   have e0 : x.data.toList.drop i = x.data.toList[i] :: x.data.toList.drop (i + 1) := List.drop_eq_getElem_cons (by omega)
   rw [if_neg (by omega), if_pos (by omega), if_pos (by omega), bt_low hlt]
   by_cases hc : x.data.toList[i] = 47
   ·rw [hc] at e0
    have hsp2 : x.data.toList.drop fr = (x.data.toList.drop fr).take (i - fr) ++ 47 :: x.data.toList.drop (i + 1) := by rw [← e0]; exact hsp
    rw [hc, if_pos (by decide), if_pos (by omega), if_pos (by omega), if_pos (by omega), wrap_k _ (by omega), Seg_l0 x hx (d - 1) (i + 1) (i + 1) k _ (by omega) (Nat.le_refl _) (by omega) (by rw [List.length_append, List.length_singleton]; omega) (by simp) (by omega), Int.toNat_natCast, Int.toNat_natCast, ext_mk]
    rw [hsp2, parts_seg _ _ hn, List.map_cons, List.append_assoc]
    congr 2
    congr 1
    rw [← hsp2]
    rfl
   ·have hne : ¬ ((x.data.toList[i].toNat : Int) = 47) := fun e => hc (by
     apply UInt8.toNat_inj.1
     have : (47 : UInt8).toNat = 47 := rfl
     omega)
    rw [if_neg hne, wrap_k _ (by omega)]
    refine Seg_l0 x hx (d - 1) (i + 1) fr k acc (by omega) (by omega) (by omega) (by omega) ?_ (by omega)
    have e3 : (x.data.toList.drop fr).take (i + 1 - fr) = (x.data.toList.drop fr).take (i - fr) ++ [x.data.toList[i]] := by
     rw [show i + 1 - fr = (i - fr) + 1 by omega, List.take_succ_eq_append_getElem (by rw [List.length_drop]; omega)]
     congr 2
     rw [List.getElem_drop]
     congr 1
     omega
    rw [e3, List.mem_append, List.mem_singleton]
    rintro (h | h)
    ·exact hn h
    ·exact hc h.symm
theorem Segments_ev (x : ByteArray) (hx : x.size ≤ 1000000) (h1 : 1 ≤ x.size) (k : Nat) (hk : x.size + 3 ≤ k) : lockageref13_Segments.f k x = some (segsB (x.extract 1 x.size)) := by
 have := Seg_l0 x hx (x.size - 1) 1 1 k [] rfl (Nat.le_refl _) h1 (by simp) (by simp) (by omega)
 unfold lockageref13_Segments.f
 rw [show lockageref13_Segments.l0 k x [] 1 1 = _ from this, List.nil_append]
 unfold segsB
 rw [Lib.extract_to_end]
def slashL (l : List ByteArray) : List UInt8 := l.flatMap fun x => 47 :: x.data.toList
theorem slash_drop (l : List ByteArray) (i : Nat) (h : i < l.length) : slashL (l.drop i) = 47 :: (l[i].data.toList ++ slashL (l.drop (i + 1))) := by
 rw [List.drop_eq_getElem_cons h]
 unfold slashL
 rw [List.flatMap_cons]
 rfl
theorem dots_l1 (l : List ByteArray) (hl : l.length ≤ 100000000) : ∀ (d i k : Nat) (out : List UInt8), l.length - i = d → i ≤ l.length → out.length + (slashL (l.drop i)).length ≤ 100000000000 → d + 1 ≤ k → lockageref13_dots.l1 k l (mkS out) (i : Int) = some (mkS (out ++ slashL (l.drop i)))
 | d, i, 0, out, hd, hi, ho, hk => by omega
 | d, i, k + 1, out, hd, hi, ho, hk => by
  rw [lockageref13_dots.l1]
  by_cases hlt : i < l.length
  ·have e := slash_drop l i hlt
   rw [e, List.length_cons, List.length_append, size_data] at ho
   have e2 : (mkS out ++ (⟨#[47]⟩ : ByteArray)) ++ l[i] = mkS (out ++ 47 :: l[i].data.toList) := by
    rw [show (⟨#[47]⟩ : ByteArray) = mkS [47] from rfl, mkS_app]
    conv => lhs; rw [← mkS_self l[i]]
    rw [mkS_app]
    simp
   have e3 : (mkS out ++ (⟨#[47]⟩ : ByteArray)).size = out.length + 1 := by rw [ByteArray.size_append, mkS_size]; rfl
   rw [if_pos (by omega), if_pos (by rw [mkS_size]; omega), if_pos (by omega), rdOf_at hlt, if_pos (by omega), wrap_k _ (by omega), e2, dots_l1 l hl (d - 1) (i + 1) k _ (by omega) (by omega) (by rw [List.length_append, List.length_cons, size_data]; omega) (by omega), e]
   simp
  ·rw [if_neg (by omega), List.drop_of_length_le (by omega)]
   simp [slashL]
theorem Normal_l0 (l : List ByteArray) (hl : l.length ≤ 100000000) : ∀ (d i k : Nat) (out : List UInt8), l.length - i = d → i ≤ l.length → out.length + (slashL (l.drop i)).length ≤ 100000000000 → d + 1 ≤ k → target_Normal.l0 k l i (mkS out) = some (mkS (out ++ slashL (l.drop i)))
 | d, i, 0, out, hd, hi, ho, hk => by omega
 | d, i, k + 1, out, hd, hi, ho, hk => by
  rw [target_Normal.l0]
  by_cases hlt : i < l.length
  ·have e := slash_drop l i hlt
   rw [e, List.length_cons, List.length_append, size_data] at ho
   have hx : l.getD i ByteArray.empty = l[i] := by rw [List.getD_eq_getElem?_getD, List.getElem?_eq_getElem hlt]; rfl
   have e2 : mkS out ++ ((⟨#[47]⟩ : ByteArray) ++ l[i]) = mkS (out ++ 47 :: l[i].data.toList) := by
    conv => lhs; rw [← mkS_self l[i]]
    rw [show (⟨#[47]⟩ : ByteArray) = mkS [47] from rfl, mkS_app, mkS_app]
    rfl
   rw [if_pos hlt, hx, if_pos (by rw [mkS_size]; omega), e2, Normal_l0 l hl (d - 1) (i + 1) k _ (by omega) (by omega) (by rw [List.length_append, List.length_cons, size_data]; omega) (by omega), e]
   simp
  ·rw [if_neg hlt, List.drop_of_length_le (by omega)]
   simp [slashL]
def isDot (p : ByteArray) : Prop := p = dotB ∨ p = dot2B
instance (p : ByteArray) : Decidable (isDot p) := by unfold isDot; exact inferInstance
theorem dot_eq {y : ByteArray} : y.toList = [46] ↔ y = dotB := ⟨fun h => H.ba_ext (by rw [← toList_data, h]; rfl), fun h => by subst h; decide +kernel⟩
theorem dot2_eq {y : ByteArray} : y.toList = [46, 46] ↔ y = dot2B := ⟨fun h => H.ba_ext (by rw [← toList_data, h]; rfl), fun h => by subst h; decide +kernel⟩
def rstep (last : Bool) (out : List ByteArray) (p : ByteArray) : List ByteArray := if isDot p then kstep out p ++ (if last = true then [ByteArray.empty] else []) else out ++ [p]
theorem kstep_len (out : List ByteArray) (p : ByteArray) : (kstep out p).length ≤ out.length + 1 := by
 unfold kstep
 split
 ·rw [List.length_take]; omega
 ·split
  ·omega
  ·rw [List.length_append]; simp
theorem dots_step (l out : List ByteArray) (i k : Nat) (hlt : i < l.length) (hl : l.length ≤ 100000000) (ho : out.length ≤ 200000000) :
  lockageref13_dots.l0 (k + 4) l out (i : Int) = lockageref13_dots.l0 (if isDot l[i] then k else k + 2) l (rstep (decide (i + 1 = l.length)) out l[i]) ((i + 1 : Nat) : Int) := by
 have e1 : wrap64 ((l.length : Int) - 1) = ((l.length - 1 : Nat) : Int) := by unfold wrap64; omega
 have e2 : ((i : Int) == ((l.length - 1 : Nat) : Int)) = decide (i + 1 = l.length) := by
  rw [Bool.eq_iff_iff, beq_iff_eq, decide_eq_true_eq]
  omega
 have hj3 : ∀ (o : List ByteArray) (b : Bool), o.length ≤ 200000000 → lockageref13_dots.j3 (k + 1) l o (i : Int) b = lockageref13_dots.l0 k l (o ++ (if b = true then [ByteArray.empty] else [])) ((i + 1 : Nat) : Int) := by
  intro o b hol
  rw [lockageref13_dots.j3]
  cases b with
  | true => rw [if_pos rfl, if_pos (by omega), wrap_k _ (by omega), if_pos rfl]; rfl
  | false => rw [if_neg (by decide), wrap_k _ (by omega), if_neg (by decide), List.append_nil]
 rw [lockageref13_dots.l0, if_pos (by omega), if_pos (by omega), rdOf_at hlt, e1, e2]
 unfold rstep
 by_cases h1 : l[i] = dotB
 ·rw [if_pos (dot_eq.2 h1), lockageref13_dots.j1, if_pos rfl, if_pos (by omega), if_pos (by omega), rdOf_at hlt, if_neg (fun h => by have := dot2_eq.1 h; rw [h1] at this; exact absurd this (by decide)), lockageref13_dots.j2, if_neg (by decide), hj3 _ _ ho, if_pos (show isDot l[i] from .inl h1), if_pos (show isDot l[i] from .inl h1)]
  have : kstep out l[i] = out := by unfold kstep; rw [h1, if_neg (by decide), if_pos rfl]
  rw [this]
 ·rw [if_neg (fun h => h1 (dot_eq.1 h)), lockageref13_dots.j1]
  by_cases h2 : l[i] = dot2B
  ·have e3 : (l[i].toList == ([46, 46] : List UInt8)) = true := by rw [beq_iff_eq]; exact dot2_eq.2 h2
   have e4 : kstep out l[i] = out.take (out.length - 1) := by unfold kstep; rw [if_pos h2]
   rw [e3, if_pos rfl, if_pos (by omega), if_pos (by omega), rdOf_at hlt, if_pos (dot2_eq.2 h2), lockageref13_dots.j2, if_pos (show isDot l[i] from .inr h2), if_pos (show isDot l[i] from .inr h2), e4]
   by_cases h3 : 0 < out.length
   ·have e5 : wrap64 ((out.length : Int) - 1) = ((out.length - 1 : Nat) : Int) := by unfold wrap64; omega
    rw [if_pos (by rw [decide_eq_true_eq]; omega), e5, if_pos (by omega), if_pos (by omega), Int.toNat_natCast, hj3 _ _ (by rw [List.length_take]; have := Nat.min_le_right (out.length - 1) out.length; omega)]
   ·rw [if_neg (by rw [decide_eq_true_eq]; omega), hj3 _ _ ho]
    have : out = [] := List.eq_nil_of_length_eq_zero (by omega)
    rw [this]
    rfl
  ·have e3 : (l[i].toList == ([46, 46] : List UInt8)) = false := by rw [beq_eq_false_iff_ne]; exact fun h => h2 (dot2_eq.1 h)
   rw [e3, if_neg (by decide), if_pos (by omega), if_pos (by omega), if_pos (by omega), rdOf_at hlt, wrap_k _ (by omega), if_neg (show ¬ isDot l[i] from fun h => h.elim h1 h2), if_neg (show ¬ isDot l[i] from fun h => h.elim h1 h2)]
def rAll : List ByteArray → List ByteArray → List ByteArray
 | out, [] => out
 | out, p :: l => rAll (rstep l.isEmpty out p) l
theorem rAll_kept : ∀ (l out : List ByteArray), rAll out l = (if isDot (l.getLastD ByteArray.empty) then l.foldl kstep out ++ [ByteArray.empty] else l.foldl kstep out)
 | [], out => by
  have : ¬ isDot ByteArray.empty := by decide
  show out = if isDot ByteArray.empty then _ else _
  rw [if_neg this]
  rfl
 | [p], out => by
  show rstep true out p = if isDot p then kstep out p ++ [ByteArray.empty] else kstep out p
  unfold rstep
  by_cases h : isDot p
  ·rw [if_pos h, if_pos h, if_pos rfl]
  ·rw [if_neg h, if_neg h]
   unfold kstep
   rw [if_neg (fun e => h (.inr e)), if_neg (fun e => h (.inl e))]
 | p :: q :: l, out => by
  have e : rstep false out p = kstep out p := by
   unfold rstep
   by_cases h : isDot p
   ·rw [if_pos h, if_neg (by decide), List.append_nil]
   ·rw [if_neg h]
    unfold kstep
    rw [if_neg (fun e => h (.inr e)), if_neg (fun e => h (.inl e))]
  have ih := rAll_kept (q :: l) (kstep out p)
  show rAll (rstep false out p) (q :: l) = _
  rw [e, ih]
  rfl
theorem rstep_len (b : Bool) (out : List ByteArray) (p : ByteArray) : (rstep b out p).length ≤ out.length + 2 := by
 unfold rstep
 have := kstep_len out p
 split
 ·rw [List.length_append]
  split
  ·rw [List.length_singleton]; omega
  ·rw [List.length_nil]; omega
 ·rw [List.length_append, List.length_singleton]; omega
theorem dots_l0 (l : List ByteArray) (hl : l.length ≤ 100000000) (B : Nat) : ∀ (d i k : Nat) (out : List ByteArray), l.length - i = d → i ≤ l.length → out.length + 2 * d ≤ 200000000 → 4 * d + 1 + B ≤ k → ∃ j, B ≤ j ∧ lockageref13_dots.l0 k l out (i : Int) = lockageref13_dots.l1 j (rAll out (l.drop i)) (⟨#[]⟩ : ByteArray) 0 := by
 intro d
 induction d with
 | zero =>
  intro i k out hd hi ho hk
  obtain ⟨k, rfl⟩ : ∃ j, k = j + 1 := ⟨k - 1, by omega⟩
  refine ⟨k, by omega, ?_⟩
  rw [lockageref13_dots.l0, if_neg (by omega), List.drop_of_length_le (by omega)]
  rfl
 | succ d ih =>
  intro i k out hd hi ho hk
  obtain ⟨k, rfl⟩ : ∃ j, k = j + 4 := ⟨k - 4, by omega⟩
  have hlt : i < l.length := by omega
  have e1 : rAll out (l.drop i) = rAll (rstep (decide (i + 1 = l.length)) out l[i]) (l.drop (i + 1)) := by
   rw [List.drop_eq_getElem_cons hlt]
   show rAll (rstep (l.drop (i + 1)).isEmpty out l[i]) (l.drop (i + 1)) = _
   congr 2
   rw [Bool.eq_iff_iff, List.isEmpty_iff, List.drop_eq_nil_iff, decide_eq_true_eq]
   omega
  have hlen := rstep_len (decide (i + 1 = l.length)) out l[i]
  rw [dots_step l out i k hlt hl (by omega), e1]
  refine ih (i + 1) _ _ (by omega) (by omega) (by omega) ?_
  split <;> omega
theorem dots_ev (l : List ByteArray) (hl : l.length ≤ 1000000) (k : Nat) (hs : (slashL (rAll [] l)).length ≤ 100000000000) (hn : (rAll [] l).length ≤ 100000000) (hk : 4 * l.length + (rAll [] l).length + 2 ≤ k) : lockageref13_dots.f k l = some (mkS (slashL (rAll [] l))) := by
 obtain ⟨j, hj, e⟩ := dots_l0 l (by omega) ((rAll [] l).length + 1) l.length 0 k [] rfl (by omega) (by simp; omega) (by omega)
 unfold lockageref13_dots.f
 rw [show lockageref13_dots.l0 k l [] 0 = _ from e, List.drop_zero]
 have := dots_l1 (rAll [] l) hn (rAll [] l).length 0 j [] rfl (by omega) (by rw [List.drop_zero, List.length_nil]; omega) hj
 rw [List.drop_zero, List.nil_append] at this
 exact this
end Go.Proofs.YthmallhjbhphgaaGreatDoor.P
namespace Go.Proofs.YthmallhjbhphgaaGreatDoor.P
open Go.RowKit Go.Proofs.YthmallhjbhphgaaGreatDoorW.PrintWords Go.Proofs.YthmallhjbhphgaaGreatDoorW.PrintLast Go.Proofs.YthmallhjbhphgaaGreatDoorW.PrintMore
def mayB (c : UInt8) : Bool := !(decide (c.toNat < 33)) && !(decide (126 < c.toNat)) && c != 35
def freeN (n : Nat) : Bool := (lockageref13_free.f (n : Int)).getD false
theorem free_ref {n : Nat} (h : n < 256) : lockageref13_free.f (n : Int) = some (freeN n) := by
 have a : ((List.range 256).all fun n => lockageref13_free.f (n : Int) == some (freeN n)) = true := by kernel_rfl
 rw [List.all_eq_true] at a
 simpa using a n (List.mem_range.2 h)
theorem free_own {n : Nat} (h : n < 256) : target_free.f (n : Int) = some (freeN n) := by
 have a : ((List.range 256).all fun n => target_free.f (n : Int) == some (freeN n)) = true := by kernel_rfl
 rw [List.all_eq_true] at a
 simpa using a n (List.mem_range.2 h)
def escL (n : Nat) : List UInt8 := if freeN n = true then [UInt8.ofNat n] else [37, capsL.getD (n / 16) 0, capsL.getD (n % 16) 0]
theorem escL_may {n : Nat} (h : n < 256) : (escL n).all mayB = true := by
 have a : ((List.range 256).all fun n => (escL n).all mayB) = true := by kernel_rfl
 rw [List.all_eq_true] at a
 exact a n (List.mem_range.2 h)
theorem escL_len (n : Nat) : (escL n).length ≤ 3 := by unfold escL; split <;> simp
def escC (a b : UInt8) : Nat := if (parseX [a, b]).2 = 0 then (parseX [a, b]).1.toNat else 0
theorem parse_two (a b : UInt8) : (parseX [a, b] = ((escC a b : Int), 0) ∨ (parseX [a, b] = (0, 1) ∧ escC a b = 0)) ∧ escC a b < 256 := by
 unfold escC parseX
 rw [if_neg (by simp)]
 by_cases h : [a, b].all isHex = true
 ·rw [if_pos h]
  simp only [List.all_cons, List.all_nil, Bool.and_true, Bool.and_eq_true] at h
  have ha := digX_yes h.1
  have hb := digX_yes h.2
  have e : numX [a, b] 0 = some (digX a * 16 + digX b) := by
   unfold numX numX numX
   rw [if_pos (by omega), if_pos (by omega)]
   congr 1
   omega
  rw [e]
  show (((digX a * 16 + digX b, (0 : Int)) = (((if (0 : Int) = 0 then (digX a * 16 + digX b).toNat else 0 : Nat) : Int), 0)) ∨ _) ∧ _
  rw [if_pos rfl]
  refine ⟨.inl ?_, ?_⟩
  ·congr 1
   omega
  ·show (if (0 : Int) = 0 then (digX a * 16 + digX b).toNat else 0) < 256
   rw [if_pos rfl]
   omega
 ·rw [if_neg h]
  exact ⟨.inr ⟨rfl, rfl⟩, by decide⟩
def escT (a b : UInt8) : Option (List UInt8) := if escC a b = 0 then none else some (escL (escC a b))
def plainS : List UInt8 → Option (List UInt8)
 | [] => some []
 | c :: l => if mayB c = true then (if c = 37 then (match l with | a :: b :: r => (escT a b).bind fun t => (plainS r).map (t ++ ·) | _ => none) else (plainS l).map (c :: ·)) else none
theorem plainS_esc (a b : UInt8) (r : List UInt8) : plainS (37 :: a :: b :: r) = (escT a b).bind fun t => (plainS r).map (t ++ ·) := by
 rw [plainS, if_pos (by decide), if_pos rfl]
theorem plainS_short {l : List UInt8} (h : l.length < 2) : plainS (37 :: l) = none := by
 rcases l with _ | ⟨a, _ | ⟨b, r⟩⟩
 ·rfl
 ·rfl
 ·simp only [List.length_cons] at h; omega
theorem plainS_one {c : UInt8} {l : List UInt8} (h : c ≠ 37) : plainS (c :: l) = if mayB c = true then (plainS l).map (c :: ·) else none := by
 rcases l with _ | ⟨a, _ | ⟨b, r⟩⟩
 ·show (if mayB c = true then (if c = 37 then none else (plainS []).map (c :: ·)) else none) = _
  rw [if_neg h]
 ·show (if mayB c = true then (if c = 37 then none else (plainS [a]).map (c :: ·)) else none) = _
  rw [if_neg h]
 ·rw [plainS, if_neg h]
theorem wrap_2 (n : Nat) (h : n ≤ 9223372036854775800) : wrap64 ((n : Int) + 2) = ((n + 2 : Nat) : Int) := by unfold wrap64; omega
theorem wrap_3 (n : Nat) (h : n ≤ 9223372036854775800) : wrap64 ((n : Int) + 3) = ((n + 3 : Nat) : Int) := by unfold wrap64; omega
theorem tdiv_16 {n : Nat} (h : n < 256) : wrap64 (Int.tdiv (n : Int) 16) = ((n / 16 : Nat) : Int) := by
 rw [Int.tdiv_eq_ediv_of_nonneg (by omega)]
 unfold wrap64
 omega
theorem tmod_16 {n : Nat} : Int.tmod (n : Int) 16 = ((n % 16 : Nat) : Int) := by
 rw [Int.tmod_eq_emod_of_nonneg (by omega)]
 omega
theorem plainS_app (r : List UInt8) : ∀ (b : List UInt8), (37 : UInt8) ∉ b → plainS (b ++ r) = if b.all mayB = true then (plainS r).map (b ++ ·) else none
 | [], _ => by
  rw [List.nil_append, List.all_nil, if_pos rfl]
  cases plainS r <;> rfl
 | c :: b, h => by
  simp only [List.mem_cons, not_or] at h
  rw [List.cons_append, plainS_one (fun e => h.1 e.symm), plainS_app r b h.2, List.all_cons]
  cases mayB c with
  | false => simp
  | true =>
   cases b.all mayB with
   | false => simp
   | true => cases plainS r <;> simp
theorem plainS_len : ∀ (n : Nat) (l t : List UInt8), l.length ≤ n → plainS l = some t → t.length ≤ l.length ∧ t.all mayB = true
 | _, [], t, _, h => by
  rw [plainS] at h
  cases h
  exact ⟨Nat.le_refl _, rfl⟩
 | 0, c :: l, t, hn, h => by simp at hn
 | n + 1, c :: l, t, hn, h => by
  rw [List.length_cons] at hn
  by_cases hc : c = 37
  ·subst hc
   match l, h, hn with
   | [], h, hn => rw [plainS_short (by simp)] at h; cases h
   | [a], h, hn => rw [plainS_short (by simp)] at h; cases h
   | a :: b :: r, h, hn =>
    rw [plainS_esc] at h
    unfold escT at h
    split at h
    ·cases h
    ·rw [Option.bind_some, Option.map_eq_some_iff] at h
     obtain ⟨u, hu, rfl⟩ := h
     simp only [List.length_cons] at hn
     have := plainS_len n r u (by omega) hu
     have h3 := escL_len (escC a b)
     refine ⟨by simp only [List.length_append, List.length_cons]; omega, ?_⟩
     rw [List.all_append, escL_may (parse_two a b).2, this.2]
     rfl
  ·rw [plainS_one hc] at h
   split at h
   ·rename_i hm
    rw [Option.map_eq_some_iff] at h
    obtain ⟨u, hu, rfl⟩ := h
    have := plainS_len n l u (by omega) hu
    exact ⟨by simp only [List.length_cons]; omega, by rw [List.all_cons, hm, this.2]; rfl⟩
   ·cases h
theorem may_bits {x : ByteArray} {i : Nat} (h : i < x.size) (c : UInt8) (hc : x.data.toList[i]'(by rw [size_data]; exact h) = c) {α : Type} (F : Bool → α) :
  (if (bt x (i : Int)) < 33 then F true else (if (bt x (i : Int)) > 126 then F true else F ((bt x (i : Int)) == 35))) = F (!mayB c) := by
 rw [bt_low h, hc]
 unfold mayB
 by_cases h1 : c.toNat < 33
 ·rw [if_pos (by omega), decide_eq_true h1]; rfl
 ·rw [if_neg (by omega), decide_eq_false h1]
  by_cases h2 : 126 < c.toNat
  ·rw [if_pos (by omega), decide_eq_true h2]; rfl
  ·rw [if_neg (by omega), decide_eq_false h2]
   congr 1
   have : ((c.toNat : Int) == 35) = (c == 35) := by
    rw [Bool.eq_iff_iff, beq_iff_eq, beq_iff_eq, ← UInt8.toNat_inj]
    have : (35 : UInt8).toNat = 35 := rfl
    omega
   rw [this]
   cases h35 : c == 35 <;> simp [bne, h35]
theorem mod256 {n : Nat} (h : n < 256) : ((n : Int)) % 256 = (n : Int) := by omega
theorem ext_one {x : ByteArray} {i : Nat} (h : i < x.size) (c : UInt8) (hc : x.data.toList[i]'(by rw [size_data]; exact h) = c) : x.extract i (i + 1) = mkS [c] := by
 rw [ext_mk, List.drop_eq_getElem_cons (by rw [size_data]; exact h), hc]
 congr 1
 rw [show i + 1 - i = 1 by omega]
 rfl
theorem caps_ext {p : Nat} (h : p < 16) : (⟨#[48, 49, 50, 51, 52, 53, 54, 55, 56, 57, 65, 66, 67, 68, 69, 70]⟩ : ByteArray).extract p (p + 1) = mkS [capsL.getD p 0] := by
 have hs : (⟨#[48, 49, 50, 51, 52, 53, 54, 55, 56, 57, 65, 66, 67, 68, 69, 70]⟩ : ByteArray).size = 16 := rfl
 refine ext_one (by rw [hs]; exact h) _ ?_
 rw [List.getD_eq_getElem?_getD, List.getElem?_eq_getElem (by exact h)]
 rfl
def mkP (o : Option (List UInt8)) (out : List UInt8) : ByteArray × Bool := match o with | some t => (mkS (out ++ t), true) | none => ((⟨#[]⟩ : ByteArray), false)
theorem mkP_map (o : Option (List UInt8)) (t out : List UInt8) : mkP (o.map (t ++ ·)) out = mkP o (out ++ t) := by
 cases o with
 | none => rfl
 | some u => show (mkS (out ++ (t ++ u)), true) = (mkS (out ++ t ++ u), true); rw [List.append_assoc]
set_option maxHeartbeats 400000 in
theorem rplain_esc (x : ByteArray) (hx : x.size ≤ 1000000) (i k : Nat) (out : List UInt8) (a b : UInt8) (hi : i + 3 ≤ x.size) (hk : 200 ≤ k) (ho : out.length ≤ 4 * i) (ha : x.data.toList.drop (i + 1) = a :: b :: x.data.toList.drop (i + 3))
  (ih : ∀ out', out'.length ≤ 4 * (i + 3) → lockageref13_plain.l0 k x (mkS out') ((i + 3 : Nat) : Int) = some (mkP (plainS (x.data.toList.drop (i + 3))) out')) :
  lockageref13_plain.j1 (k + 2) x (mkS out) (i : Int) 37 false = some (mkP (plainS (37 :: x.data.toList.drop (i + 1))) out) := by
 have h1 : i ≤ 9223372036854775806 := by omega
 have h2 : i ≤ 9223372036854775800 := by omega
 have h4 : i + 2 ≤ 9223372036854775806 := by omega
 have et : (x.data.toList.drop (i + 1)).take (i + 3 - (i + 1)) = [a, b] := by rw [ha, show i + 3 - (i + 1) = 2 by omega]; rfl
 rw [lockageref13_plain.j1, if_neg (by decide), if_pos rfl, wrap_2 i h2, if_neg (by omega), wrap_k i h1, wrap_3 i h2, if_pos (by omega), if_pos (by omega), if_pos (by omega), Int.toNat_natCast, Int.toNat_natCast, ext_mk]
 rw [et, ha, RefParse_evx _ (by rw [mkS_size]; exact (by decide : 2 ≤ 9223372036854775806)) _ (by rw [mkS_size]; show 4 * 2 + 100 ≤ _; omega), mkS_list, Option.bind_some, plainS_esc]
 obtain ⟨hp, hlt2⟩ := parse_two a b
 have ej : (if (parseX [a, b]).2 = 0 then lockageref13_plain.j2 (k + 1) x (mkS out) (i : Int) (parseX [a, b]).1 ((parseX [a, b]).1 == 0) else lockageref13_plain.j2 (k + 1) x (mkS out) (i : Int) (parseX [a, b]).1 true) = lockageref13_plain.j2 (k + 1) x (mkS out) (i : Int) (escC a b : Int) (decide (escC a b = 0)) := by
  rcases hp with hp | ⟨hp, hp2⟩
  ·rw [hp, if_pos rfl]
   congr 1
   rw [Bool.eq_iff_iff, beq_iff_eq, decide_eq_true_eq]
   show (escC a b : Int) = 0 ↔ _
   omega
  ·rw [hp, hp2]
   rfl
 rw [ej, lockageref13_plain.j2]
 unfold escT
 by_cases h0 : escC a b = 0
 ·rw [decide_eq_true h0, if_pos rfl, if_pos h0]
  rfl
 ·rw [decide_eq_false h0, if_neg (by decide), if_neg h0, Option.bind_some, mod256 hlt2, free_ref hlt2, Option.bind_some, Option.bind_some, mkP_map]
  unfold escL
  clear ej hp
  generalize escC a b = n' at *
  cases hf : freeN n' with
  | true =>
   have e5 : (strOfNums [(n' : Int)]) = mkS [UInt8.ofNat n'] := by
    have := one_byte (UInt8.ofNat n')
    rw [UInt8.toNat_ofNat_of_lt' (by exact hlt2)] at this
    exact this
   have e6 : (mkS [UInt8.ofNat n']).size = 1 := rfl
   rw [if_pos (rfl : true = true), if_pos (rfl : true = true), e5, if_pos (by rw [mkS_size, e6]; omega), wrap_2 i h2, wrap_k (i + 2) h4, mkS_app, ih _ (by rw [List.length_append, List.length_singleton]; omega)]
  | false =>
   have s1 : (mkS out ++ (⟨#[37]⟩ : ByteArray)) = mkS (out ++ [37]) := mkS_app out [37]
   have s2 : (⟨#[37]⟩ : ByteArray).size = 1 := rfl
   have l1 : ∀ (u : List UInt8) (c : UInt8), (u ++ [c]).length = u.length + 1 := fun u c => by rw [List.length_append, List.length_singleton]
   have hp16 : n' / 16 < 16 := by omega
   have hq16 : n' % 16 < 16 := by omega
   rw [if_neg (by decide : ¬ (false = true)), if_neg (by decide : ¬ (false = true)), tdiv_16 hlt2, tmod_16]
   generalize n' / 16 = p at *
   generalize n' % 16 = q at *
   have q3 : p ≤ 9223372036854775806 := by omega
   have q4 : q ≤ 9223372036854775806 := by omega
   have a1 : (0 : Int) ≤ (p : Int) := Int.natCast_nonneg p
   have a2 : (p : Int) ≤ ((p + 1 : Nat) : Int) := by omega
   have a3 : ((p + 1 : Nat) : Int) ≤ 16 := by omega
   have b1 : (0 : Int) ≤ (q : Int) := Int.natCast_nonneg q
   have b2 : (q : Int) ≤ ((q + 1 : Nat) : Int) := by omega
   have b3 : ((q + 1 : Nat) : Int) ≤ 16 := by omega
   rw [if_pos (by rw [mkS_size]; omega), wrap_k p q3, wrap_k q q4, if_pos a1, if_pos a2, if_pos a3, Int.toNat_natCast, Int.toNat_natCast, Int.toNat_natCast, Int.toNat_natCast, caps_ext hp16, caps_ext hq16, s1, mkS_app, mkS_app]
   rw [if_pos (by rw [mkS_size, mkS_size, l1, List.length_singleton]; omega), if_pos b1, if_pos b2, if_pos b3, if_pos (by rw [mkS_size, mkS_size, l1, l1, List.length_singleton]; omega), wrap_2 i h2, wrap_k (i + 2) h4, ih _ (by rw [l1, l1, l1]; omega)]
   simp only [List.append_assoc, List.singleton_append, List.cons_append, List.nil_append]
set_option maxHeartbeats 400000 in
theorem rplain_l0 (x : ByteArray) (hx : x.size ≤ 1000000) (n : Nat) : ∀ (d i k : Nat) (out : List UInt8), d ≤ n → x.size - i = d → i ≤ x.size → out.length ≤ 4 * i → 3 * d + 210 ≤ k →
  lockageref13_plain.l0 k x (mkS out) (i : Int) = some (mkP (plainS (x.data.toList.drop i)) out) := by
 induction n with
 | zero =>
  intro d i k out hn hd hi ho hk
  obtain ⟨k, rfl⟩ : ∃ j, k = j + 1 := ⟨k - 1, by omega⟩
  rw [lockageref13_plain.l0, if_neg (by omega), List.drop_of_length_le (by rw [size_data]; omega)]
  show _ = some (mkS (out ++ []), true)
  rw [List.append_nil]
 | succ n ih =>
  intro d i k out hn hd hi ho hk
  obtain ⟨k, rfl⟩ : ∃ j, k = j + 3 := ⟨k - 3, by omega⟩
  by_cases hlt : i < x.size
  case neg =>
   rw [lockageref13_plain.l0, if_neg (by omega), List.drop_of_length_le (by rw [size_data]; omega)]
   show _ = some (mkS (out ++ []), true)
   rw [List.append_nil]
  have hs : x.data.toList.length = x.size := size_data x
  obtain ⟨c, hc⟩ : ∃ c, x.data.toList[i]'(by rw [hs]; exact hlt) = c := ⟨_, rfl⟩
  have ed : x.data.toList.drop i = c :: x.data.toList.drop (i + 1) := by rw [List.drop_eq_getElem_cons (by rw [hs]; exact hlt), hc]
  have eb : bt x (i : Int) = (c.toNat : Int) := by rw [bt_low hlt, hc]
  rw [lockageref13_plain.l0, if_pos (by omega), if_pos (by omega), may_bits hlt c hc fun b => lockageref13_plain.j1 (k + 2) x (mkS out) (i : Int) (bt x (i : Int)) b, ed, eb]
  have h1 : i ≤ 9223372036854775806 := by omega
  cases hm : mayB c with
  | false =>
   have hc37 : c ≠ 37 := fun e => by subst e; exact absurd hm (by decide)
   rw [lockageref13_plain.j1, if_pos (by decide), plainS_one hc37, hm, if_neg (by decide)]
   rfl
  | true =>
   by_cases h37 : c = 37
   ·subst h37
    by_cases hsz : x.size ≤ i + 2
    ·rw [lockageref13_plain.j1, if_neg (by decide), if_pos (by decide), wrap_2 i (by omega), if_pos (by omega), plainS_short (by rw [List.length_drop]; omega)]
     rfl
    ·have ed2 : x.data.toList.drop (i + 1) = x.data.toList[i + 1]'(by rw [hs]; omega) :: x.data.toList[i + 2]'(by rw [hs]; omega) :: x.data.toList.drop (i + 3) := by
      rw [List.drop_eq_getElem_cons (by rw [hs]; omega), List.drop_eq_getElem_cons (i := i + 1 + 1) (by rw [hs]; omega)]
     exact rplain_esc x hx i k out _ _ (by omega) (by omega) ho ed2 fun out' ho' => ih (d - 3) (i + 3) k out' (by omega) (by omega) (by omega) (by omega) (by omega)
   ·have hne : ¬ ((c.toNat : Int) = 37) := fun e => h37 (by
     apply UInt8.toNat_inj.1
     have : (37 : UInt8).toNat = 37 := rfl
     omega)
    rw [lockageref13_plain.j1, if_neg (by decide), if_neg hne, wrap_k i h1, if_pos (by omega), if_pos (by omega), if_pos (by omega), Int.toNat_natCast, Int.toNat_natCast, ext_one hlt c hc, if_pos (by rw [mkS_size]; show _ + 1 ≤ _; omega), mkS_app, ih (d - 1) (i + 1) _ _ (by omega) (by omega) (by omega) (by rw [List.length_append, List.length_singleton]; omega) (by omega), plainS_one h37, hm, if_pos rfl]
    exact congrArg some (mkP_map (plainS (x.data.toList.drop (i + 1))) [c] out).symm
theorem rplain_ev (x : ByteArray) (hx : x.size ≤ 1000000) (k : Nat) (hk : 3 * x.size + 210 ≤ k) : lockageref13_plain.f k x = some (mkP (plainS x.data.toList) []) := by
 have := rplain_l0 x hx x.size x.size 0 k [] (Nat.le_refl _) (by omega) (by omega) (by simp) (by omega)
 rw [List.drop_zero] at this
 exact this
end Go.Proofs.YthmallhjbhphgaaGreatDoor.P
namespace Go.Proofs.YthmallhjbhphgaaGreatDoor.P
open Go.RowKit Go.Proofs.YthmallhjbhphgaaGreatDoorW.PrintWords Go.Proofs.YthmallhjbhphgaaGreatDoorW.PrintLast Go.Proofs.YthmallhjbhphgaaGreatDoorW.PrintMore
theorem may_l0 (x : ByteArray) (hx : x.size ≤ 100000000) (d : Nat) : ∀ (i k : Nat), x.size - i = d → i ≤ x.size → 2 * d + 1 ≤ k → target_may.l0 k x (x.size : Int) (i : Int) = some ((x.data.toList.drop i).all mayB) := by
 have hs : x.data.toList.length = x.size := size_data x
 induction d with
 | zero =>
  intro i k hd hi hk
  obtain ⟨k, rfl⟩ : ∃ j, k = j + 1 := ⟨k - 1, by omega⟩
  rw [target_may.l0, if_neg (by omega), List.drop_of_length_le (by omega)]
  rfl
 | succ d ih =>
  intro i k hd hi hk
  obtain ⟨k, rfl⟩ : ∃ j, k = j + 2 := ⟨k - 2, by omega⟩
  have hlt : i < x.size := by omega
  have h1 : i ≤ 9223372036854775806 := by omega
  obtain ⟨c, hc⟩ : ∃ c, x.data.toList[i]'(by rw [hs]; exact hlt) = c := ⟨_, rfl⟩
  rw [target_may.l0, if_pos (by omega), if_pos (by omega), if_pos (by omega), may_bits hlt c hc fun b => target_may.j1 (k + 1) x (x.size : Int) (i : Int) b, target_may.j1, List.drop_eq_getElem_cons (by omega), hc, List.all_cons, wrap_k i h1]
  cases hm : mayB c with
  | false => rw [if_pos (by decide), Bool.false_and]
  | true => rw [if_neg (by decide), ih (i + 1) k (by omega) (by omega) (by omega), Bool.true_and]
theorem may_ev (l : List UInt8) (hx : l.length ≤ 100000000) (k : Nat) (hk : 2 * l.length + 1 ≤ k) : target_may.f k (mkS l) = some (l.all mayB) := by
 have := may_l0 (mkS l) (by rw [mkS_size]; exact hx) (mkS l).size 0 k rfl (by omega) (by rw [mkS_size]; exact hk)
 rw [mkS_list, List.drop_zero] at this
 exact this
theorem escape_ev (a b : UInt8) (r : List UInt8) (hr : r.length ≤ 100000000) (k : Nat) (hk : 50 ≤ k) : target_escape.f k (mkS (a :: b :: r)) = some ((escC a b : Nat) : Int) := by
 have e : (mkS (a :: b :: r)).extract 0 2 = mkS [a, b] := by rw [ext_mk, mkS_list]; rfl
 have hs : (mkS (a :: b :: r)).size = r.length + 2 := by rw [mkS_size]; rfl
 unfold target_escape.f
 rw [hs, if_neg (by omega), if_pos (by decide), if_pos (by omega), e, Parse_evx _ (by rw [mkS_size]; exact (by decide : 2 ≤ 9223372036854775806)) _ (by rw [mkS_size]; show 2 * 2 + 40 ≤ _; omega), mkS_list, Option.bind_some]
 obtain ⟨hp, hlt⟩ := parse_two a b
 rcases hp with hp | ⟨hp, h0⟩
 ·rw [hp, if_pos rfl, mod256 hlt]
 ·rw [hp, h0]
  rfl
theorem escape_short (l : List UInt8) (h : l.length < 2) (k : Nat) : target_escape.f k (mkS l) = some 0 := by
 unfold target_escape.f
 rw [mkS_size, if_pos (by omega)]
theorem cut_ev (l : List UInt8) (h : l.length ≤ 100000000) : strings_Cut.f (mkS l) (⟨#[37]⟩ : ByteArray) = some (mkS (Sp.cutL 37 l), mkS (Sp.cutR 37 l), Sp.cutIs 37 l) := by
 unfold strings_Cut.f
 rw [if_pos (by rw [mkS_size]; omega), mkS_list]
 rfl
theorem oplain_l0 (n : Nat) : ∀ (s out : List UInt8) (k : Nat), s.length ≤ n → out.length + s.length ≤ 1000000 → 2 * (out.length + s.length) + n + 200 ≤ k →
  ∃ r, target_plain.l0 k (mkS s) (mkS out) = some (r, out.all mayB && (plainS s).isSome) ∧ ∀ t, plainS s = some t → r = mkS (out ++ t) := by
 induction n with
 | zero =>
  intro s out k hn ho hk
  obtain ⟨k, rfl⟩ : ∃ j, k = j + 1 := ⟨k - 1, by omega⟩
  have hs : s = [] := List.eq_nil_of_length_eq_zero (by omega)
  subst hs
  refine ⟨mkS (out ++ []), ?_, fun t h => by rw [plainS] at h; cases h; rfl⟩
  rw [target_plain.l0, if_pos (by rw [mkS_size, mkS_size]; omega), cut_ev _ (by simp), Option.bind_some, if_pos (by rw [mkS_size, mkS_size, mkS_size]; simp [Sp.cutL, Sp.cutR])]
  show (if Sp.cutIs 37 [] = true then _ else (target_may.f k (mkS out ++ mkS [])).bind _) = _
  rw [if_neg (by decide), mkS_app, List.append_nil, may_ev _ (by omega) _ (by omega), Option.bind_some, plainS]
  simp [Sp.cutL, mkS_app]
 | succ n ih =>
  intro s out k hn ho hk
  obtain ⟨k, rfl⟩ : ∃ j, k = j + 1 := ⟨k - 1, by omega⟩
  have hL := Sp.cutL_length 37 s
  have hR := Sp.cutR_length 37 s
  by_cases hm : (37 : UInt8) ∈ s
  ·obtain ⟨b, rest, rfl, hb⟩ := List.eq_append_cons_of_mem hm
   rw [List.length_append, List.length_cons] at hn ho hk
   have hex : ∀ (r : ByteArray), (∃ o, plainS (37 :: rest) = o ∧ o = none) → ∃ r, some ((⟨#[]⟩ : ByteArray), false) = some (r, out.all mayB && (plainS (b ++ 37 :: rest)).isSome) ∧ ∀ t, plainS (b ++ 37 :: rest) = some t → r = mkS (out ++ t) := by
    rintro _ ⟨o, ho, rfl⟩
    have e : plainS (b ++ 37 :: rest) = none := by
     rw [plainS_app _ b hb, ho]
     split <;> rfl
    rw [e]
    exact ⟨⟨#[]⟩, by simp, fun t h => by cases h⟩
   rw [target_plain.l0, if_pos (by rw [mkS_size, mkS_size, List.length_append, List.length_cons]; omega), cut_ev _ (by rw [List.length_append, List.length_cons]; omega), Option.bind_some, Sp.cutL_at hb, Sp.cutR_at hb, Sp.cutIs_at]
   dsimp only
   rw [if_pos (by rw [mkS_size, mkS_size, mkS_size, List.length_append, List.length_cons]; omega), if_pos rfl]
   by_cases h2 : rest.length < 2
   ·rw [escape_short _ h2, Option.bind_some, if_pos rfl]
    exact hex ByteArray.empty ⟨_, rfl, plainS_short h2⟩
   ·obtain ⟨a, c, r, rfl⟩ : ∃ a c r, rest = a :: c :: r := by
     rcases rest with _ | ⟨a, _ | ⟨c, r⟩⟩
     ·simp at h2
     ·simp at h2
     ·exact ⟨a, c, r, rfl⟩
    simp only [List.length_cons] at hn ho hk
    rw [escape_ev a c r (by omega) k (by omega), Option.bind_some]
    have hlt := (parse_two a c).2
    by_cases h0 : escC a c = 0
    ·rw [h0, if_pos (by rfl)]
     exact hex ByteArray.empty ⟨_, rfl, by rw [plainS_esc]; unfold escT; rw [if_pos h0]; rfl⟩
    ·have ext : (mkS (a :: c :: r)).extract 2 (mkS (a :: c :: r)).size = mkS r := H.ba_ext (by rw [Lib.extract_to_end, mkS_list, mkS_list]; rfl)
     have sz : (mkS (a :: c :: r)).size = r.length + 2 := by rw [mkS_size]; rfl
     have key : ∃ r', target_plain.l0 k (mkS r) (mkS (out ++ b ++ escL (escC a c))) = some (r', out.all mayB && (plainS (b ++ 37 :: a :: c :: r)).isSome) ∧ ∀ t, plainS (b ++ 37 :: a :: c :: r) = some t → r' = mkS (out ++ t) := by
      have hl := escL_len (escC a c)
      obtain ⟨r', h1, h3⟩ := ih r (out ++ b ++ escL (escC a c)) k (by omega) (by simp only [List.length_append]; omega) (by simp only [List.length_append]; omega)
      have e : plainS (b ++ 37 :: a :: c :: r) = if b.all mayB = true then ((plainS r).map (escL (escC a c) ++ ·)).map (b ++ ·) else none := by
       rw [plainS_app _ b hb, plainS_esc]
       unfold escT
       rw [if_neg h0]
       rfl
      refine ⟨r', ?_, fun t ht => ?_⟩
      ·rw [h1, e, List.all_append, List.all_append, escL_may hlt]
       congr 2
       cases b.all mayB <;> cases plainS r <;> simp
      ·rw [e] at ht
       split at ht
       ·cases hp : plainS r with
        | none => rw [hp] at ht; cases ht
        | some u =>
         rw [hp] at ht
         cases ht
         rw [h3 u hp]
         simp only [List.append_assoc]
       ·cases ht
     rw [if_neg (by omega), if_pos (by rw [sz]; omega), free_own hlt, Option.bind_some, ext]
     unfold escL at key
     cases hf : freeN (escC a c) with
     | true =>
      rw [hf, if_pos (rfl : true = true)] at key
      rw [if_pos (rfl : true = true), mkS_app, show (⟨#[UInt8.ofNat ((escC a c : Nat) : Int).toNat]⟩ : ByteArray) = mkS [UInt8.ofNat (escC a c)] by rw [Int.toNat_natCast]; rfl, mkS_app]
      exact key
     | false =>
      rw [hf, if_neg (by decide : ¬ (false = true))] at key
      rw [if_neg (by decide : ¬ (false = true)), mkS_app, Int.toNat_natCast, show escB (escC a c) = mkS [37, capsL.getD (escC a c / 16) 0, capsL.getD (escC a c % 16) 0] from rfl, mkS_app]
      exact key
  ·have e1 : Sp.cutL 37 s = s := by unfold Sp.cutL; rw [if_neg hm]
   have e2 : Sp.cutIs 37 s = false := by unfold Sp.cutIs; simpa using hm
   have e3 : plainS s = if s.all mayB = true then some s else none := by
    have := plainS_app [] s hm
    rw [List.append_nil] at this
    rw [this, plainS]
    simp
   rw [target_plain.l0, if_pos (by rw [mkS_size, mkS_size]; omega), cut_ev _ (by omega), Option.bind_some, e1, e2]
   dsimp only
   rw [if_pos (by rw [mkS_size, mkS_size]; omega), if_neg (by decide), mkS_app, may_ev _ (by rw [List.length_append]; omega) _ (by rw [List.length_append]; omega), Option.bind_some]
   rw [e3, List.all_append]
   refine ⟨mkS (out ++ s), ?_, fun t ht => ?_⟩
   ·cases s.all mayB <;> simp
   ·split at ht
    ·cases ht; rfl
    ·cases ht
theorem oplain_ev (l : List UInt8) (hl : l.length ≤ 1000000) (k : Nat) (hk : 3 * l.length + 200 ≤ k) : ∃ r, target_plain.f k (mkS l) = some (r, (plainS l).isSome) ∧ ∀ t, plainS l = some t → r = mkS t := by
 obtain ⟨r, h1, h2⟩ := oplain_l0 l.length l [] k (Nat.le_refl _) (by simpa using hl) (by simp; omega)
 exact ⟨r, h1, h2⟩
theorem query_spec (s : List UInt8) : queryAt (mkS s) ≤ s.length ∧ (63 : UInt8) ∉ s.take (queryAt (mkS s)) ∧ (∀ h : queryAt (mkS s) < s.length, s[queryAt (mkS s)] = 63) := by
 unfold queryAt
 rw [mkS_list, mkS_size]
 rcases H.index_split s 63 with ⟨h1, h2⟩ | ⟨k, h1, h2, h3, h4, h5⟩
 ·rw [if_pos (by omega)]
  exact ⟨Nat.le_refl _, by rw [List.take_length]; exact h2, fun h => absurd h (Nat.lt_irrefl _)⟩
 ·rw [if_neg (by omega), h1, Int.toNat_natCast]
  have hn : (63 : UInt8) ∉ s.take k := by
   rw [h3]
   intro h
   have := List.all_takeWhile (l := s) (p := (· != (63 : UInt8)))
   rw [List.all_eq_true] at this
   simpa using this _ h
  refine ⟨by omega, hn, fun h => ?_⟩
  obtain ⟨u, v, e, ha⟩ := List.eq_append_cons_of_mem h5
  have hk : u.length = k := by
   have := congrArg List.length h3
   rw [List.length_take, e, Sp.take_to ha, ← e] at this
   omega
  subst hk
  simp [e]
theorem rnorm_l0 (s : List UInt8) (hs : s.length ≤ 1000000) (m : Nat) (hm : m ≤ s.length) (hn : (63 : UInt8) ∉ s.take m) (hq : ∀ h : m < s.length, s[m] = 63) (d : Nat) : ∀ (i k : Nat), m - i = d → i ≤ m → d + 1 ≤ k → lockageref13_Normal.l0 k (mkS s) (i : Int) = lockageref13_Normal.j1 (k - d - 1) (mkS s) (m : Int) := by
 induction d with
 | zero =>
  intro i k hd hi hk
  obtain ⟨k, rfl⟩ : ∃ j, k = j + 1 := ⟨k - 1, by omega⟩
  have he : i = m := by omega
  subst he
  rw [lockageref13_Normal.l0, show k + 1 - 0 - 1 = k by omega]
  by_cases hlt : i < s.length
  ·rw [if_pos (by rw [mkS_size]; omega), if_pos (by omega), bt_low (by rw [mkS_size]; exact hlt)]
   have hc : (mkS s).data.toList[i]'(by rw [mkS_list]; exact hlt) = 63 := by
    have := hq hlt
    simpa [mkS_list] using this
   rw [hc, if_pos (by decide)]
  ·rw [if_neg (by rw [mkS_size]; omega)]
 | succ d ih =>
  intro i k hd hi hk
  obtain ⟨k, rfl⟩ : ∃ j, k = j + 1 := ⟨k - 1, by omega⟩
  have hlt : i < s.length := by omega
  have h1 : i ≤ 9223372036854775806 := by omega
  have hc : s[i] ≠ 63 := by
   intro h
   apply hn
   rw [List.mem_take_iff_getElem]
   exact ⟨i, by omega, h⟩
  rw [lockageref13_Normal.l0, if_pos (by rw [mkS_size]; omega), if_pos (by omega), bt_low (by rw [mkS_size]; exact hlt), if_neg (by
   intro h
   apply hc
   have : (mkS s).data.toList[i]'(by rw [mkS_list]; exact hlt) = s[i] := by simp [mkS_list]
   rw [this] at h
   apply UInt8.toNat_inj.1
   have : (63 : UInt8).toNat = 63 := rfl
   omega), wrap_k i h1, ih (i + 1) k (by omega) (by omega) (by omega), show k + 1 - (d + 1) - 1 = k - d - 1 by omega]
theorem rq_l1 (t q : List UInt8) (hs : q.length ≤ 1000000) (B : Nat) (d : Nat) : ∀ (i k : Nat), q.length - i = d → i ≤ q.length → 2 * d + 1 + B ≤ k →
  ∃ k', B ≤ k' ∧ lockageref13_Normal.l1 k (mkS t) (mkS q) (i : Int) = if (q.drop i).all mayB = true then ((lockageref13_Segments.f k' (mkS t)).bind fun t333 => ((lockageref13_dots.f k' t333).bind fun t336 => (some (t336, mkS q, 0)))) else some ((⟨#[]⟩ : ByteArray), (⟨#[]⟩ : ByteArray), 40) := by
 induction d with
 | zero =>
  intro i k hd hi hk
  obtain ⟨k, rfl⟩ : ∃ j, k = j + 1 := ⟨k - 1, by omega⟩
  refine ⟨k, by omega, ?_⟩
  rw [lockageref13_Normal.l1, if_neg (by rw [mkS_size]; omega), List.drop_of_length_le (by omega), List.all_nil, if_pos rfl]
 | succ d ih =>
  intro i k hd hi hk
  obtain ⟨k, rfl⟩ : ∃ j, k = j + 2 := ⟨k - 2, by omega⟩
  have hlt : i < q.length := by omega
  have h1 : i ≤ 9223372036854775806 := by omega
  have hlt2 : i < (mkS q).size := by rw [mkS_size]; exact hlt
  have hc : (mkS q).data.toList[i]'(by rw [mkS_list]; exact hlt) = q[i] := rfl
  rw [lockageref13_Normal.l1, if_pos (by omega), if_pos (by omega), may_bits hlt2 _ hc fun b => lockageref13_Normal.j4 (k + 1) (mkS t) (mkS q) (i : Int) b, lockageref13_Normal.j4, List.drop_eq_getElem_cons hlt, List.all_cons, wrap_k i h1]
  cases hm : mayB q[i] with
  | false => exact ⟨k, by omega, by rw [if_pos (by decide), Bool.false_and, if_neg (by decide)]⟩
  | true =>
   obtain ⟨k', h2, h3⟩ := ih (i + 1) k (by omega) (by omega) (by omega)
   exact ⟨k', h2, by rw [if_neg (by decide), h3, Bool.true_and]⟩
theorem parts_mem (c : UInt8) (l : List UInt8) : ∀ x ∈ Sp.parts c l, x.length ≤ l.length := partsK_le c l
theorem rAll_mem : ∀ (l out : List ByteArray) (x : ByteArray), x ∈ rAll out l → x ∈ out ∨ x ∈ l ∨ x = ByteArray.empty
 | [], out, x, h => .inl h
 | p :: l, out, x, h => by
  rcases rAll_mem l _ x h with h | h | h
  ·unfold rstep at h
   have hk : ∀ y, y ∈ kstep out p → y ∈ out ∨ y = p := by
    intro y hy
    unfold kstep at hy
    split at hy
    ·exact .inl (List.mem_of_mem_take hy)
    ·split at hy
     ·exact .inl hy
     ·rw [List.mem_append, List.mem_singleton] at hy
      exact hy
   split at h
   ·rw [List.mem_append] at h
    rcases h with h | h
    ·rcases hk _ h with h | h
     ·exact .inl h
     ·exact .inr (.inl (by rw [h]; exact List.mem_cons_self))
    ·split at h
     ·exact .inr (.inr (List.mem_singleton.1 h))
     ·cases h
   ·rw [List.mem_append, List.mem_singleton] at h
    rcases h with h | h
    ·exact .inl h
    ·exact .inr (.inl (by rw [h]; exact List.mem_cons_self))
  ·exact .inr (.inl (List.mem_cons_of_mem _ h))
  ·exact .inr (.inr h)
theorem rAll_len : ∀ (l out : List ByteArray), (rAll out l).length ≤ out.length + 2 * l.length
 | [], out => by show out.length ≤ _; omega
 | p :: l, out => by
  have h1 := rAll_len l (rstep l.isEmpty out p)
  have h2 := rstep_len l.isEmpty out p
  show (rAll (rstep l.isEmpty out p) l).length ≤ _
  rw [List.length_cons]
  omega
theorem slashL_len (M : Nat) : ∀ (l : List ByteArray), (∀ x ∈ l, x.size ≤ M) → (slashL l).length ≤ l.length * (M + 1)
 | [], _ => by simp [slashL]
 | x :: l, h => by
  have h1 := slashL_len M l fun y hy => h y (List.mem_cons_of_mem _ hy)
  have h2 := h x List.mem_cons_self
  have e : slashL (x :: l) = 47 :: x.data.toList ++ slashL l := rfl
  rw [e, List.length_append, List.length_cons, List.length_cons, size_data, Nat.add_mul, Nat.one_mul]
  omega
theorem keptOf_all (s : ByteArray) : keptOf s = rAll [] (segsB s) := by
 rw [rAll_kept]
 unfold keptOf keptL lastB
 by_cases h : isDot ((segsB s).getLastD ByteArray.empty)
 ·rw [if_pos h, if_pos (show _ ∨ _ from h)]
 ·rw [if_neg h, if_neg (show ¬ (_ ∨ _) from h)]
theorem segs_len (s : ByteArray) : (segsB s).length ≤ s.size + 1 := by
 unfold segsB
 rw [List.length_map]
 have := parts_cnt 47 s.data.toList
 rw [size_data] at this
 exact this
theorem segs_size (s : ByteArray) : ∀ x ∈ segsB s, x.size ≤ s.size := by
 intro x hx
 unfold segsB at hx
 rw [List.mem_map] at hx
 obtain ⟨y, hy, rfl⟩ := hx
 have := parts_mem 47 _ y hy
 rw [size_data] at this
 exact Nat.le_trans (Nat.le_of_eq (mkS_size y)) this
theorem slash_bound (s : ByteArray) (hs : s.size ≤ 1000) : (rAll [] (segsB s)).length ≤ 2002 ∧ (slashL (rAll [] (segsB s))).length ≤ 3000000 := by
 have h1 := rAll_len (segsB s) []
 have h2 := segs_len s
 have h3 : (rAll [] (segsB s)).length ≤ 2002 := by rw [List.length_nil] at h1; omega
 refine ⟨h3, ?_⟩
 have h4 := slashL_len 1000 (rAll [] (segsB s)) fun x hx => by
  rcases rAll_mem _ _ x hx with h | h | h
  ·cases h
  ·exact Nat.le_trans (segs_size s x h) hs
  ·rw [h]; exact Nat.zero_le _
 omega
def okN (t q : List UInt8) : ByteArray × ByteArray × Int := (mkS (slashL (rAll [] (segsB ((mkS t).extract 1 (mkS t).size)))), mkS q, 0)
def noN : ByteArray × ByteArray × Int := ((⟨#[]⟩ : ByteArray), (⟨#[]⟩ : ByteArray), 40)
def normB (s : List UInt8) : ByteArray × ByteArray × Int := if s.length > 200 then ((⟨#[]⟩ : ByteArray), (⟨#[]⟩ : ByteArray), 2) else
 match plainS (s.take (queryAt (mkS s))) with
 | none => noN
 | some t => if t.head? = some 47 ∧ (s.drop (queryAt (mkS s))).all mayB = true then okN t (s.drop (queryAt (mkS s))) else noN
theorem ext_head (s : List UInt8) (m : Nat) : (mkS s).extract 0 m = mkS (s.take m) := by rw [ext_mk, mkS_list, List.drop_zero, Nat.sub_zero]
theorem ext_tail (s : List UInt8) (m : Nat) : (mkS s).extract m (mkS s).size = mkS (s.drop m) := H.ba_ext (by rw [Lib.extract_to_end, mkS_list, mkS_list])
theorem tail_ext (t : List UInt8) (h1 : t.head? = some 47) (h : t.length ≤ 1000) : ((mkS t).extract 1 (mkS t).size).size ≤ 1000 ∧ 1 ≤ (mkS t).size := by
 have : 1 ≤ t.length := by
  cases t with
  | nil => cases h1
  | cons a b => simp
 rw [ext_tail, mkS_size, mkS_size, List.length_drop]
 omega
theorem ownNormal_ev (s : List UInt8) (k : Nat) (hk : 20000 ≤ k) : target_Normal.f k (mkS s) = some (normB s) := by
 unfold target_Normal.f normB
 rw [mkS_size]
 by_cases hl : s.length > 200
 ·rw [if_pos (by omega), if_pos hl]
 rw [if_neg (by omega), if_neg hl]
 obtain ⟨hm, _, _⟩ := query_spec s
 generalize queryAt (mkS s) = m at *
 have e2 := ext_tail s m
 rw [mkS_size] at e2
 rw [ext_head, e2]
 obtain ⟨r, h1, h2⟩ := oplain_ev (s.take m) (by rw [List.length_take]; omega) k (by rw [List.length_take]; omega)
 rw [h1, Option.bind_some]
 cases hp : plainS (s.take m) with
 | none => rfl
 | some t =>
  have ht := (plainS_len _ _ _ (Nat.le_refl _) hp).1
  rw [List.length_take] at ht
  rw [h2 t hp]
  dsimp only
  rw [if_pos (show (some t).isSome = true from rfl), mkS_list, may_ev _ (by rw [List.length_drop]; omega) _ (by rw [List.length_drop]; omega), Option.bind_some]
  have e47 : Lib.hasPrefix t [47] = decide (t.head? = some 47) := by
   cases t with
   | nil => rfl
   | cons a b =>
    rw [Bool.eq_iff_iff, decide_eq_true_eq, List.head?_cons, Option.some.injEq]
    unfold Lib.hasPrefix
    simp
    exact eq_comm
  rw [e47]
  by_cases h47 : t.head? = some 47
  ·rw [decide_eq_true h47, if_pos rfl]
   cases hq : (s.drop m).all mayB with
   | false => rw [if_neg (by decide), if_neg (by simp)]; rfl
   | true =>
    obtain ⟨b1, b2⟩ := tail_ext t h47 (by omega)
    obtain ⟨c1, c2⟩ := slash_bound _ b1
    rw [if_pos rfl, if_pos ⟨h47, rfl⟩]
    unfold target_kept.f
    rw [if_pos ⟨b2, by rw [mkS_size]; omega⟩, Option.bind_some, keptOf_all]
    have := Normal_l0 (rAll [] (segsB ((mkS t).extract 1 (mkS t).size))) (by omega) (rAll [] (segsB ((mkS t).extract 1 (mkS t).size))).length 0 k [] (by omega) (by omega) (by rw [List.drop_zero, List.length_nil]; omega) (by omega)
    rw [List.drop_zero, List.nil_append] at this
    rw [show target_Normal.l0 k (rAll [] (segsB ((mkS t).extract 1 (mkS t).size))) 0 (⟨#[]⟩ : ByteArray) = _ from this, Option.bind_some]
    rfl
  ·rw [decide_eq_false h47, if_neg (by decide), if_neg (fun h => h47 h.1)]
   rfl
theorem refNormal_ev (s : List UInt8) (k : Nat) (hk : 20000 ≤ k) : lockageref13_Normal.f k (mkS s) = some (normB s) := by
 unfold lockageref13_Normal.f normB
 rw [mkS_size]
 by_cases hl : s.length > 200
 ·rw [if_pos (by omega), if_pos hl]
 rw [if_neg (by omega), if_neg hl]
 obtain ⟨hm, hn, hq⟩ := query_spec s
 generalize queryAt (mkS s) = m at *
 rw [show ((0 : Int)) = ((0 : Nat) : Int) from rfl, rnorm_l0 s (by omega) m hm hn hq m 0 k (by omega) (by omega) (by omega)]
 obtain ⟨k2, h2⟩ : ∃ j, k - m - 1 = j + 2 := ⟨k - m - 3, by omega⟩
 have e2 := ext_tail s m
 have hk2 : 19000 ≤ k2 := by omega
 rw [mkS_size] at e2
 rw [h2, lockageref13_Normal.j1, if_pos (by omega), if_pos (by rw [mkS_size]; omega), Int.toNat_natCast, ext_head, rplain_ev _ (by rw [mkS_size, List.length_take]; omega) _ (by rw [mkS_size, List.length_take]; omega), Option.bind_some, mkS_list]
 have j2 : ∀ t x, lockageref13_Normal.j2 (k2 + 1) (mkS s) (m : Int) t x = if x = true then some noN else lockageref13_Normal.l1 k2 t (mkS (s.drop m)) 0 := by
  intro t x
  rw [lockageref13_Normal.j2, if_pos (by omega : (0 : Int) ≤ (m : Int)), if_pos (by rw [mkS_size]; omega : (m : Int) ≤ ((mkS s).size : Int)), Int.toNat_natCast, mkS_size, e2]
  rfl
 cases hp : plainS (s.take m) with
 | none =>
  show (if false = true then _ else _) = _
  rw [if_neg (by decide), j2, if_pos rfl]
 | some t =>
  have ht := (plainS_len _ _ _ (Nat.le_refl _) hp).1
  rw [List.length_take] at ht
  show (if true = true then (if (mkS t).toList = [] then lockageref13_Normal.j2 (k2 + 1) (mkS s) (m : Int) (mkS t) true else if 0 < ((mkS t).size : Int) then lockageref13_Normal.j2 (k2 + 1) (mkS s) (m : Int) (mkS t) (bt (mkS t) 0 != 47) else none) else _) = _
  rw [if_pos rfl, toList_data, mkS_list]
  cases t with
  | nil =>
   rw [if_pos rfl, j2, if_pos rfl]
   show some noN = some (if ([] : List UInt8).head? = some 47 ∧ _ then _ else noN)
   rw [if_neg (by simp)]
  | cons a b =>
   have hb : (bt (mkS (a :: b)) 0 != 47) = !decide (a = 47) := by
    have h0 := bt_low (x := mkS (a :: b)) (i := 0) (by rw [mkS_size]; simp)
    rw [show ((0 : Nat) : Int) = 0 from rfl] at h0
    rw [h0]
    show (((a.toNat : Int)) != 47) = _
    have h47 : (47 : UInt8).toNat = 47 := rfl
    by_cases ha : a = 47
    ·subst ha; rfl
    ·rw [decide_eq_false ha, bne_iff_ne.2]
     ·rfl
     ·intro h
      apply ha
      apply UInt8.toNat_inj.1
      omega
   rw [if_neg (by simp), if_pos (by rw [mkS_size, List.length_cons]; omega), hb, j2]
   dsimp only
   rw [List.head?_cons]
   by_cases ha : a = 47
   ·rw [decide_eq_true ha, if_neg (by decide)]
    obtain ⟨k', h3, h4⟩ := rq_l1 (a :: b) (s.drop m) (by rw [List.length_drop]; omega) 15000 (s.drop m).length 0 k2 (by omega) (by omega) (by rw [List.length_drop]; omega)
    rw [show (0 : Int) = ((0 : Nat) : Int) from rfl, h4, List.drop_zero]
    obtain ⟨b1, b2⟩ := tail_ext (a :: b) (by rw [ha]; rfl) (by omega)
    obtain ⟨c1, c2⟩ := slash_bound _ b1
    have c3 := segs_len ((mkS (a :: b)).extract 1 (mkS (a :: b)).size)
    have hsz : (mkS (a :: b)).size ≤ 1000 := by rw [mkS_size]; omega
    cases hq : (s.drop m).all mayB with
    | false => rw [if_neg (by decide), if_neg (by simp)]; rfl
    | true =>
     rw [if_pos rfl, if_pos ⟨by rw [ha], rfl⟩, Segments_ev _ (by omega) b2 _ (by omega), Option.bind_some, dots_ev _ (by omega) _ (by omega) (by omega) (by omega), Option.bind_some]
     rfl
   ·rw [decide_eq_false ha, if_pos (by decide), if_neg (fun h => ha (Option.some.inj h.1))]
end Go.Proofs.YthmallhjbhphgaaGreatDoor.P
namespace Go.Proofs.YthmallhjbhphgaaGreatDoor.P
open Go.RowKit Go.Proofs.YthmallhjbhphgaaGreatDoorW.PrintWords Go.Proofs.YthmallhjbhphgaaGreatDoorW.PrintLast Go.Proofs.YthmallhjbhphgaaGreatDoorW.PrintMore
theorem getS_low {a b : ByteArray} (fs : List S37) (h : Sp.lower a.data.toList = Sp.lower b.data.toList) : getS fs a = getS fs b := by unfold getS; rw [h]
theorem refGetK {fs : List S37} (h : FitK fs) (a : ByteArray) (ha : a.size ≤ 5000) (k : Nat) (hk : 8000 ≤ k) : lockageref05_Get.f k fs a = some (getS fs a) :=
 RefGet_ev 5000 (by decide) fs a (by have := h.n; omega) ha (fun y hy => by have := (h.x y hy).1; omega) k (by have := h.n; omega)
theorem directs_l1 (a : ByteArray) (vs its : List ByteArray) (v : Int) (hl : its.length ≤ 5000) (d : Nat) : ∀ (i k : Nat), its.length - i = d → i ≤ its.length → d + 1 ≤ k →
  lockageref16_directs.l1 k a vs v its (i : Int) = if hasT (its.drop i) a.toList = true then some true else lockageref16_directs.l0 (k - d - 1) a vs (wrap64 (v + 1)) := by
 induction d with
 | zero =>
  intro i k hd hi hk
  obtain ⟨k, rfl⟩ : ∃ j, k = j + 1 := ⟨k - 1, by omega⟩
  rw [lockageref16_directs.l1, if_neg (by omega), List.drop_of_length_le (by omega), show k + 1 - 0 - 1 = k by omega]
  rfl
 | succ d ih =>
  intro i k hd hi hk
  obtain ⟨k, rfl⟩ : ∃ j, k = j + 1 := ⟨k - 1, by omega⟩
  have hlt : i < its.length := by omega
  have h1 : i ≤ 9223372036854775806 := by omega
  rw [lockageref16_directs.l1, if_pos (by omega), if_pos (by omega), rdOf_at hlt, hasT_drop _ _ _ hlt, wrap_k i h1]
  by_cases e : its[i].toList = a.toList
  ·rw [if_pos e, if_pos (by rw [e]; simp)]
  ·have e2 : (a.toList == its[i].toList) = false := by rw [beq_eq_false_iff_ne]; exact fun h => e h.symm
   rw [if_neg e, e2, Bool.false_or, ih (i + 1) k (by omega) (by omega) (by omega), show k + 1 - (d + 1) - 1 = k - d - 1 by omega]
theorem directs_l0 (a : ByteArray) (vs : List ByteArray) (hn : vs.length ≤ 5000) (hv : ∀ v ∈ vs, v.size ≤ 2010) (d : Nat) : ∀ (i k : Nat), vs.length - i = d → i ≤ vs.length → 2020 * d + 9000 ≤ k →
  lockageref16_directs.l0 k a vs (i : Int) = some (hasT ((vs.drop i).flatMap itemsB) a.toList) := by
 induction d with
 | zero =>
  intro i k hd hi hk
  obtain ⟨k, rfl⟩ : ∃ j, k = j + 1 := ⟨k - 1, by omega⟩
  rw [lockageref16_directs.l0, if_neg (by omega), List.drop_of_length_le (by omega)]
  rfl
 | succ d ih =>
  intro i k hd hi hk
  obtain ⟨k, rfl⟩ : ∃ j, k = j + 1 := ⟨k - 1, by omega⟩
  have hlt : i < vs.length := by omega
  have h1 : i ≤ 9223372036854775806 := by omega
  have h2 := hv vs[i] (List.getElem_mem hlt)
  have h3 := items_le vs[i]
  have e1 := directs_l1 a vs (itemsB vs[i]) (i : Int) (by omega) (itemsB vs[i]).length 0 k (by omega) (by omega) (by omega)
  rw [List.drop_zero] at e1
  rw [lockageref16_directs.l0, if_pos (by omega), if_pos (by omega), rdOf_at hlt, RefItems_ev _ (by omega) _ (by omega), Option.bind_some, show lockageref16_directs.l1 k a vs (i : Int) (itemsB vs[i]) 0 = _ from e1, List.drop_eq_getElem_cons hlt, List.flatMap_cons, hasT_append, wrap_k i h1]
  cases hasT (itemsB vs[i]) a.toList with
  | true => rfl
  | false => rw [if_neg (by decide), ih (i + 1) _ (by omega) (by omega) (by omega), Bool.false_or]
def ccL : ByteArray := ⟨#[99, 97, 99, 104, 101, 45, 99, 111, 110, 116, 114, 111, 108]⟩
theorem refDirects_ev {fs : List S37} (h : FitK fs) (a : ByteArray) (k : Nat) (hk : 5000000 ≤ k) : lockageref16_directs.f k fs a = some (hasT (itemsN fs ccB) a.toList) := by
 obtain ⟨h1, h2⟩ := h.get ccB
 have e := getS_low (a := ccL) (b := ccB) fs (by decide)
 unfold lockageref16_directs.f
 rw [show lockageref05_Get.f k fs (⟨#[99, 97, 99, 104, 101, 45, 99, 111, 110, 116, 114, 111, 108]⟩ : ByteArray) = _ from refGetK h ccL (by decide) k (by omega), Option.bind_some, e]
 have := directs_l0 a (getS fs ccB) (by omega) h2 (getS fs ccB).length 0 k (by omega) (by omega) (by omega)
 rw [List.drop_zero] at this
 exact this
theorem directs_one (fs : List S37) (n : ByteArray) : directsS fs [n] = hasT (itemsN fs ccB) n.toList := by
 unfold directsS hasT
 congr 1
 funext x
 simp only [List.any_cons, List.any_nil, Bool.or_false]
 rw [Bool.eq_iff_iff, beq_iff_eq, beq_iff_eq]
 exact eq_comm
theorem directs_two (fs : List S37) (n m : ByteArray) : directsS fs [n, m] = (hasT (itemsN fs ccB) n.toList || hasT (itemsN fs ccB) m.toList) := by
 rw [← directs_one, ← directs_one]
 unfold directsS hasT
 rw [Bool.eq_iff_iff, Bool.or_eq_true, List.any_eq_true, List.any_eq_true, List.any_eq_true]
 simp only [List.any_cons, List.any_nil, Bool.or_false, Bool.or_eq_true]
 constructor
 ·rintro ⟨x, hx, h | h⟩
  ·exact .inl ⟨x, hx, h⟩
  ·exact .inr ⟨x, hx, h⟩
 ·rintro (⟨x, hx, h⟩ | ⟨x, hx, h⟩)
  ·exact ⟨x, hx, .inl h⟩
  ·exact ⟨x, hx, .inr h⟩
def ownLow : List ByteArray := [(⟨#[97, 117, 116, 104, 111, 114, 105, 122, 97, 116, 105, 111, 110]⟩ : ByteArray), (⟨#[99, 111, 111, 107, 105, 101]⟩ : ByteArray), (⟨#[114, 97, 110, 103, 101]⟩ : ByteArray)]
theorem shared_l0 (m t : ByteArray) (st : Int) (rs : ByteArray) (mi : Int) {fs : List S37} (h : FitK fs) (body : ByteArray) (ns : List ByteArray) (hn : ns.length ≤ 100) (hs : ∀ x ∈ ns, x.size ≤ 5000) (d : Nat) : ∀ (i k : Nat), ns.length - i = d → i ≤ ns.length → d + 5000010 ≤ k →
  lockageref16_Shared.l0 k ns (ns.length : Int) (i : Int) m t st rs mi fs body = some (!((ns.drop i).any fun x => decide (0 < (getS fs x).length)) && !directsS fs noStore) := by
 induction d with
 | zero =>
  intro i k hd hi hk
  obtain ⟨k, rfl⟩ : ∃ j, k = j + 1 := ⟨k - 1, by omega⟩
  rw [lockageref16_Shared.l0, if_neg (by omega), List.drop_of_length_le (by omega), refDirects_ev h _ k (by omega), Option.bind_some]
  unfold noStore
  rw [directs_one]
  rfl
 | succ d ih =>
  intro i k hd hi hk
  obtain ⟨k, rfl⟩ : ∃ j, k = j + 1 := ⟨k - 1, by omega⟩
  have hlt : i < ns.length := by omega
  have h1 : i ≤ 9223372036854775806 := by omega
  rw [lockageref16_Shared.l0, if_pos (by omega), if_pos (by omega), if_pos (by omega), rdOf_at hlt, refGetK h _ (hs _ (List.getElem_mem hlt)) k (by omega), Option.bind_some, List.drop_eq_getElem_cons hlt, List.any_cons, wrap_k i h1]
  by_cases e : 0 < (getS fs ns[i]).length
  ·rw [if_pos (by omega), decide_eq_true e]
   rfl
  ·rw [if_neg (by omega), decide_eq_false e, Bool.false_or, ih (i + 1) k (by omega) (by omega) (by omega)]
theorem ownLow_any (fs : List S37) : (ownLow.any fun x => decide (0 < (getS fs x).length)) = (ownNames.any fun x => decide (0 < (getS fs x).length)) := by
 unfold ownLow ownNames
 simp only [List.any_cons, List.any_nil]
 rw [getS_low (a := ⟨#[97, 117, 116, 104, 111, 114, 105, 122, 97, 116, 105, 111, 110]⟩) (b := ⟨#[65, 117, 116, 104, 111, 114, 105, 122, 97, 116, 105, 111, 110]⟩) fs (by decide), getS_low (a := ⟨#[99, 111, 111, 107, 105, 101]⟩) (b := ⟨#[67, 111, 111, 107, 105, 101]⟩) fs (by decide), getS_low (a := ⟨#[114, 97, 110, 103, 101]⟩) (b := ⟨#[82, 97, 110, 103, 101]⟩) fs (by decide)]
theorem refShared_ev (m t : ByteArray) (st : Int) (rs : ByteArray) (mi : Int) {fs : List S37} (h : FitK fs) (body : ByteArray) (k : Nat) (hk : 6000000 ≤ k) : lockageref16_Shared.f k m t st rs mi fs body = some (sharedS m fs body) := by
 obtain ⟨k, rfl⟩ : ∃ j, k = j + 1 := ⟨k - 1, by omega⟩
 have e0 : ∀ b, lockageref16_Shared.j0 (k + 1) b m t st rs mi fs body = some (!b && (!directsS fs noStore && !(ownNames.any fun x => decide (0 < (getS fs x).length)))) := by
  intro b
  rw [lockageref16_Shared.j0]
  cases b with
  | true => rw [if_pos rfl]; rfl
  | false =>
   have := shared_l0 m t st rs mi h body ownLow (by decide) (by decide) ownLow.length 0 k rfl (by omega) (by show 3 + _ ≤ _; omega)
   rw [List.drop_zero, ownLow_any] at this
   rw [if_neg (by decide), Option.bind_some]
   refine Eq.trans this ?_
   rw [Bool.and_comm]
   rfl
 unfold lockageref16_Shared.f sharedS
 by_cases hm : m = getB
 ·rw [if_pos (by subst hm; decide +kernel), e0, decide_eq_true hm, Bool.true_and]
  congr 2
  by_cases hb : body.size = 0
  ·have : (body.toList == []) = true := eq_nil hb
   rw [decide_eq_true hb]
   simp only [bne, this]
   rfl
  ·have : (body.toList == []) = false := ne_nil hb
   rw [decide_eq_false hb]
   simp only [bne, this]
   rfl
 ·have hne := ne_get hm
  rw [if_neg (by rw [beq_eq_false_iff_ne] at hne; exact hne), e0, decide_eq_false hm]
  rfl
end Go.Proofs.YthmallhjbhphgaaGreatDoor.P
namespace Go.Proofs.YthmallhjbhphgaaGreatDoor.P
open Go.RowKit Go.Proofs.YthmallhjbhphgaaGreatDoorW.PrintWords Go.Proofs.YthmallhjbhphgaaGreatDoorW.PrintLast Go.Proofs.YthmallhjbhphgaaGreatDoorW.PrintMore
def addRB (a : ByteArray) : Bool → List ByteArray → List ByteArray
 | false, [] => [a]
 | true, [] => []
 | true, x :: l => if x.toList = a.toList then addRB a true l else x :: addRB a true l
 | false, x :: l => if Op.bytesLess x.toList a.toList = true then (if x.toList = a.toList then addRB a false l else x :: addRB a false l) else a :: (if x.toList = a.toList then addRB a true l else x :: addRB a true l)
theorem add_l0 (L : List ByteArray) (hL : L.length ≤ 5000000) (a : ByteArray) (d : Nat) : ∀ (i k : Nat) (out : List ByteArray) (dn : Bool), L.length - i = d → i ≤ L.length → out.length ≤ 2 * i → 3 * d + 1 ≤ k →
  lockageref16_add.l0 k L a out dn (i : Int) = some (out ++ addRB a dn (L.drop i)) := by
 induction d with
 | zero =>
  intro i k out dn hd hi ho hk
  obtain ⟨k, rfl⟩ : ∃ j, k = j + 1 := ⟨k - 1, by omega⟩
  rw [lockageref16_add.l0, if_neg (by omega), List.drop_of_length_le (by omega)]
  cases dn with
  | true => rw [if_pos rfl]; show _ = some (out ++ []); rw [List.append_nil]
  | false => rw [if_neg (by decide), if_pos (by omega)]; rfl
 | succ d ih =>
  intro i k out dn hd hi ho hk
  obtain ⟨k, rfl⟩ : ∃ j, k = j + 3 := ⟨k - 3, by omega⟩
  have hlt : i < L.length := by omega
  have h1 : i ≤ 9223372036854775806 := by omega
  have l1 : ∀ (u : List ByteArray) (c : ByteArray), (u ++ [c]).length = u.length + 1 := fun u c => by rw [List.length_append, List.length_singleton]
  have j2 : ∀ (o : List ByteArray) (b : Bool), o.length ≤ 2 * i + 1 → lockageref16_add.j2 (k + 1) L a o b (i : Int) = some (if L[i].toList = a.toList then o ++ addRB a b (L.drop (i + 1)) else o ++ L[i] :: addRB a b (L.drop (i + 1))) := by
   intro o b hob
   rw [lockageref16_add.j2, if_pos (by omega), if_pos (by omega), rdOf_at hlt, wrap_k i h1]
   by_cases e : L[i].toList = a.toList
   ·rw [if_pos e, if_pos e, ih (i + 1) k o b (by omega) (by omega) (by omega) (by omega)]
   ·rw [if_neg e, if_neg e, if_pos (by omega), ih (i + 1) k _ b (by omega) (by omega) (by rw [l1]; omega) (by omega), List.append_assoc, List.singleton_append]
  rw [lockageref16_add.l0, if_pos (by omega), List.drop_eq_getElem_cons hlt]
  cases dn with
  | true =>
   rw [if_pos rfl, lockageref16_add.j1, if_neg (by decide), j2 out true (by omega), addRB]
   split <;> rfl
  | false =>
   rw [if_neg (by decide), if_pos (by omega), rdOf_at hlt, lockageref16_add.j1, addRB]
   cases hb : Op.bytesLess L[i].toList a.toList with
   | true =>
    rw [if_neg (by decide), j2 out false (by omega), if_pos rfl]
    split <;> rfl
   | false =>
    rw [if_pos (by decide), if_pos (by omega), j2 _ true (by rw [l1]; omega), if_neg (by decide : ¬ (false = true))]
    split
    ·rw [List.append_assoc, List.singleton_append]
    ·rw [List.append_assoc, List.singleton_append]
theorem add_ev (L : List ByteArray) (hL : L.length ≤ 5000000) (a : ByteArray) (k : Nat) (hk : 15000001 ≤ k) : lockageref16_add.f k L a = some (addRB a false L) := add_l0 L hL a L.length 0 k [] false rfl (by omega) (by simp) (by omega)
theorem addRB_true (a : ByteArray) : ∀ (L : List ByteArray), (∀ x ∈ L, x.toList ≠ a.toList) → addRB a true L = L
 | [], _ => rfl
 | x :: L, h => by rw [addRB, if_neg (h x List.mem_cons_self), addRB_true a L fun y hy => h y (List.mem_cons_of_mem _ hy)]
theorem addRB_map (s : List UInt8) : ∀ (l : List (List UInt8)), l.Pairwise (· < ·) → addRB (mkS s) false (l.map mkS) = (addS s l).map mkS
 | [], _ => rfl
 | x :: l, h => by
  obtain ⟨hx, hl⟩ := List.pairwise_cons.1 h
  have tl : ∀ y : List UInt8, (mkS y).toList = y := fun y => by rw [toList_data, mkS_list]
  have tr : ∀ (z : List UInt8), (∀ y ∈ l, z < y) → addRB (mkS z) true (l.map mkS) = l.map mkS := by
   intro z hz
   refine addRB_true _ _ fun y hy => ?_
   obtain ⟨w, hw, rfl⟩ := List.mem_map.1 hy
   rw [tl, tl]
   intro e
   exact List.lt_irrefl _ (e ▸ hz w hw)
  rw [List.map_cons, addRB, tl, tl, bytesLess_eq]
  unfold addS
  by_cases e : x = s
  ·subst e
   rw [if_neg (by rw [decide_eq_true_eq]; exact List.lt_irrefl _), if_pos rfl, if_pos rfl, tr _ hx]
   rfl
  ·simp only [if_neg e]
   by_cases hle : s ≤ x
   ·rw [if_pos hle, if_neg (by rw [decide_eq_true_eq]; exact List.not_lt.2 hle)]
    have hlt : s < x := by
     rcases List.le_iff_lt_or_eq.1 hle with h | h
     ·exact h
     ·exact absurd h.symm e
    rw [tr s fun y hy => List.lt_trans hlt (hx y hy)]
    rfl
   ·rw [if_neg hle, if_pos (by rw [decide_eq_true_eq]; exact List.not_le.1 hle), addRB_map s l hl]
    rfl
def foldS (acc l : List (List UInt8)) : List (List UInt8) := l.foldl (fun acc s => addS s acc) acc
theorem vary_l1 (B : Nat) (hB : 15000001 ≤ B) (vs its : List ByteArray) (hl : its.length ≤ 100000000) (v : Int) (d : Nat) : ∀ (i k : Nat) (acc : List (List UInt8)), acc.Pairwise (· < ·) → its.length - i = d → i ≤ its.length → acc.length + d ≤ 5000000 → d + 1 + B ≤ k →
  lockageref16_Vary.l1 k (acc.map mkS) vs v its (i : Int) = if ([42] : List UInt8) ∈ (its.drop i).map (·.data.toList) then some ([], false) else lockageref16_Vary.l0 (k - d - 1) ((foldS acc ((its.drop i).map (·.data.toList))).map mkS) vs (wrap64 (v + 1)) := by
 induction d with
 | zero =>
  intro i k acc hp hd hi ha hk
  obtain ⟨k, rfl⟩ : ∃ j, k = j + 1 := ⟨k - 1, by omega⟩
  rw [lockageref16_Vary.l1, if_neg (by omega), List.drop_of_length_le (by omega), show k + 1 - 0 - 1 = k by omega]
  rfl
 | succ d ih =>
  intro i k acc hp hd hi ha hk
  obtain ⟨k, rfl⟩ : ∃ j, k = j + 1 := ⟨k - 1, by omega⟩
  have hlt : i < its.length := by omega
  have h1 : i ≤ 9223372036854775806 := by omega
  rw [lockageref16_Vary.l1, if_pos (by omega), if_pos (by omega), rdOf_at hlt, List.drop_eq_getElem_cons hlt, List.map_cons, wrap_k i h1]
  by_cases e : its[i].toList = [42]
  ·rw [if_pos e, if_pos (by rw [toList_data] at e; rw [e]; exact List.mem_cons_self)]
  ·have e2 : ¬ ([42] : List UInt8) = its[i].data.toList := by rw [toList_data] at e; exact fun h => e h.symm
   have hm : ([42] : List UInt8) ∈ its[i].data.toList :: (its.drop (i + 1)).map (·.data.toList) ↔ ([42] : List UInt8) ∈ (its.drop (i + 1)).map (·.data.toList) := by
    rw [List.mem_cons]
    exact ⟨fun h => h.resolve_left e2, .inr⟩
   have hal := addS_len its[i].data.toList acc
   rw [if_neg e, add_ev _ (by rw [List.length_map]; omega) _ k (Nat.le_trans hB (by omega)), Option.bind_some, ← mkS_self its[i], addRB_map _ _ hp, mkS_list, ih (i + 1) k _ (addS_sorted _ _ hp) (by omega) (by omega) (by omega) (by omega), show k + 1 - (d + 1) - 1 = k - d - 1 by omega]
   simp only [hm]
   rfl
theorem foldS_len (l : List (List UInt8)) : ∀ acc, (foldS acc l).length ≤ acc.length + l.length := by
 induction l with
 | nil => intro acc; show acc.length ≤ _; omega
 | cons s l ih =>
  intro acc
  have h1 := ih (addS s acc)
  have h2 := addS_len s acc
  show (foldS (addS s acc) l).length ≤ _
  rw [List.length_cons]
  omega
theorem vary_l0 (B : Nat) (hB : 15000001 ≤ B) (vs : List ByteArray) (hn : vs.length ≤ 2010) (hv : ∀ v ∈ vs, v.size ≤ 2010) (d : Nat) : ∀ (i k : Nat) (acc : List (List UInt8)), acc.Pairwise (· < ·) → vs.length - i = d → i ≤ vs.length → acc.length + 2011 * d ≤ 5000000 → 2020 * d + B ≤ k →
  lockageref16_Vary.l0 k (acc.map mkS) vs (i : Int) = some (if ([42] : List UInt8) ∈ ((vs.drop i).flatMap itemsB).map (·.data.toList) then ([], false) else ((foldS acc (((vs.drop i).flatMap itemsB).map (·.data.toList))).map mkS, true)) := by
 induction d with
 | zero =>
  intro i k acc hp hd hi ha hk
  obtain ⟨k, rfl⟩ : ∃ j, k = j + 1 := ⟨k - 1, by omega⟩
  rw [lockageref16_Vary.l0, if_neg (by omega), List.drop_of_length_le (by omega)]
  rfl
 | succ d ih =>
  intro i k acc hp hd hi ha hk
  obtain ⟨k, rfl⟩ : ∃ j, k = j + 1 := ⟨k - 1, by omega⟩
  have hlt : i < vs.length := by omega
  have h1 : i ≤ 9223372036854775806 := by omega
  have h2 := hv vs[i] (List.getElem_mem hlt)
  have h3 := items_le vs[i]
  have e1 := vary_l1 B hB vs (itemsB vs[i]) (by omega) (i : Int) (itemsB vs[i]).length 0 k acc hp (by omega) (by omega) (by omega) (by omega)
  rw [List.drop_zero] at e1
  have hfl := foldS_len ((itemsB vs[i]).map (·.data.toList)) acc
  rw [List.length_map] at hfl
  have hfs : (foldS acc ((itemsB vs[i]).map (·.data.toList))).Pairwise (· < ·) := (varyS_aux _ _ hp).1
  have hk2 : 2020 * d + B ≤ k - (itemsB vs[i]).length - 1 := by omega
  rw [lockageref16_Vary.l0, if_pos (by omega), if_pos (by omega), rdOf_at hlt, RefItems_ev _ (by omega) _ (by omega), Option.bind_some, show lockageref16_Vary.l1 k (acc.map mkS) vs (i : Int) (itemsB vs[i]) 0 = _ from e1, List.drop_eq_getElem_cons hlt, List.flatMap_cons, List.map_append, wrap_k i h1]
  by_cases hm : ([42] : List UInt8) ∈ (itemsB vs[i]).map (·.data.toList)
  ·rw [if_pos hm, if_pos (List.mem_append_left _ hm)]
  ·have hm2 : ([42] : List UInt8) ∈ (itemsB vs[i]).map (·.data.toList) ++ ((vs.drop (i + 1)).flatMap itemsB).map (·.data.toList) ↔ ([42] : List UInt8) ∈ ((vs.drop (i + 1)).flatMap itemsB).map (·.data.toList) := by
    rw [List.mem_append]
    exact ⟨fun h => h.resolve_left hm, .inr⟩
   rw [if_neg hm, ih (i + 1) _ _ hfs (by omega) (by omega) (by omega) hk2]
   simp only [hm2]
   unfold foldS
   rw [List.foldl_append]
def varyLo : ByteArray := ⟨#[118, 97, 114, 121]⟩
theorem refVary_ev {fs : List S37} (h : FitK fs) (k : Nat) (hk : 21000000 ≤ k) : lockageref16_Vary.f k fs = some (varyR fs) := by
 obtain ⟨h1, h2⟩ := h.get varyB
 have e := getS_low (a := varyLo) (b := varyB) fs (by decide)
 unfold lockageref16_Vary.f
 rw [show lockageref05_Get.f k fs (⟨#[118, 97, 114, 121]⟩ : ByteArray) = _ from refGetK h varyLo (by decide) k (by omega), Option.bind_some, e]
 have := vary_l0 15000001 (Nat.le_refl _) (getS fs varyB) h1 h2 (getS fs varyB).length 0 k [] List.Pairwise.nil (by omega) (by omega) (by simp only [List.length_nil]; omega) (by omega)
 rw [List.drop_zero] at this
 exact this
end Go.Proofs.YthmallhjbhphgaaGreatDoor.P
namespace Go.Proofs.YthmallhjbhphgaaGreatDoor.P
open Go.RowKit Go.Proofs.YthmallhjbhphgaaGreatDoorW.PrintWords Go.Proofs.YthmallhjbhphgaaGreatDoorW.PrintLast Go.Proofs.YthmallhjbhphgaaGreatDoorW.PrintMore
theorem vals_drop (l : List ByteArray) (i : Nat) (h : i < l.length) : valsS (l.drop i) = l[i].data.toList ++ 10 :: valsS (l.drop (i + 1)) := by
 rw [List.drop_eq_getElem_cons h]
 unfold valsS
 rw [List.flatMap_cons, List.append_assoc]
 rfl
theorem rsplit_l1 (ns : List ByteArray) (fs : List S37) (v : Int) (vs : List ByteArray) (hv : vs.length ≤ 5000) (d : Nat) : ∀ (i k : Nat) (out : List UInt8), vs.length - i = d → i ≤ vs.length → out.length + (valsS (vs.drop i)).length ≤ 90000000000000 → d + 1 ≤ k →
  lockageref16_Split.l1 k ns fs (mkS out) v vs (i : Int) = lockageref16_Split.l0 (k - d - 1) ns fs (mkS (out ++ (valsS (vs.drop i) ++ [10]))) (wrap64 (v + 1)) := by
 induction d with
 | zero =>
  intro i k out hd hi ho hk
  obtain ⟨k, rfl⟩ : ∃ j, k = j + 1 := ⟨k - 1, by omega⟩
  rw [lockageref16_Split.l1, if_neg (by omega), if_pos (by rw [mkS_size]; omega), List.drop_of_length_le (by omega), show k + 1 - 0 - 1 = k by omega, show (⟨#[10]⟩ : ByteArray) = mkS [10] from rfl, mkS_app]
  rfl
 | succ d ih =>
  intro i k out hd hi ho hk
  obtain ⟨k, rfl⟩ : ∃ j, k = j + 1 := ⟨k - 1, by omega⟩
  have hlt : i < vs.length := by omega
  have h1 : i ≤ 9223372036854775806 := by omega
  have e := vals_drop vs i hlt
  rw [e, List.length_append, List.length_cons, size_data] at ho
  have e2 : (mkS out ++ vs[i]) ++ (⟨#[10]⟩ : ByteArray) = mkS (out ++ vs[i].data.toList ++ [10]) := by
   rw [show (⟨#[10]⟩ : ByteArray) = mkS [10] from rfl]
   conv => lhs; rw [← mkS_self vs[i]]
   rw [mkS_app, mkS_app]
  rw [lockageref16_Split.l1, if_pos (by omega), if_pos (by omega), rdOf_at hlt, if_pos (by rw [mkS_size]; omega), if_pos (by rw [ByteArray.size_append, mkS_size]; omega), e2, wrap_k i h1, ih (i + 1) k _ (by omega) (by omega) (by rw [List.length_append, List.length_append, size_data, List.length_singleton]; omega) (by omega), e, show k + 1 - (d + 1) - 1 = k - d - 1 by omega]
  simp only [List.append_assoc, List.singleton_append, List.cons_append, List.nil_append]
theorem refGetB {fs : List S37} (h : FitK fs) (a : ByteArray) (ha : a.size ≤ 1048576) (k : Nat) (hk : 1060000 ≤ k) : lockageref05_Get.f k fs a = some (getS fs a) :=
 RefGet_ev 1048576 (by decide) fs a (by have := h.n; omega) ha (fun x hx => by have := (h.x x hx).1; omega) k (by have := h.n; omega)
theorem rsplit_l0 {fs : List S37} (h : FitK fs) (ns : List ByteArray) (hn : ns.length ≤ 4042110) (hns : ∀ x ∈ ns, x.size ≤ 1048576) (B : Nat) (hB : 1100000 ≤ B) (d : Nat) : ∀ (i k : Nat) (out : List UInt8), ns.length - i = d → i ≤ ns.length → out.length + (splitS (ns.drop i) fs).length ≤ 90000000000000 → 2020 * d + B ≤ k →
  lockageref16_Split.l0 k ns fs (mkS out) (i : Int) = some (mkS (out ++ splitS (ns.drop i) fs)) := by
 induction d with
 | zero =>
  intro i k out hd hi ho hk
  obtain ⟨k, rfl⟩ : ∃ j, k = j + 1 := ⟨k - 1, by omega⟩
  rw [lockageref16_Split.l0, if_neg (by omega), List.drop_of_length_le (by omega)]
  show _ = some (mkS (out ++ []))
  rw [List.append_nil]
 | succ d ih =>
  intro i k out hd hi ho hk
  obtain ⟨k, rfl⟩ : ∃ j, k = j + 1 := ⟨k - 1, by omega⟩
  have hlt : i < ns.length := by omega
  have h1 : i ≤ 9223372036854775806 := by omega
  have hz := hns ns[i] (List.getElem_mem hlt)
  have ed : splitS (ns.drop i) fs = nameS fs ns[i] ++ splitS (ns.drop (i + 1)) fs := by rw [List.drop_eq_getElem_cons hlt]; unfold splitS; rw [List.flatMap_cons]
  rw [ed, List.length_append] at ho
  obtain ⟨q1, q2⟩ := nameS_len h ns[i]
  obtain ⟨g1, g2⟩ := h.get ns[i]
  have hlw : (⟨(Sp.lower ns[i].data.toList).toArray⟩ : ByteArray) = mkS (Sp.lower ns[i].data.toList) := rfl
  have hls : (Sp.lower ns[i].data.toList).length = ns[i].size := by rw [Sp.lower_length, size_data]
  have hlen : (out ++ Sp.lower ns[i].data.toList ++ [58]).length = out.length + ns[i].size + 1 := by rw [List.length_append, List.length_append, hls, List.length_singleton]
  have hl1 := rsplit_l1 ns fs (i : Int) (getS fs ns[i]) (by omega) (getS fs ns[i]).length 0 k (out ++ Sp.lower ns[i].data.toList ++ [58]) (by omega) (by omega) (by rw [List.drop_zero, hlen]; omega) (by omega)
  rw [List.drop_zero] at hl1
  have hk2 : 2020 * d + B ≤ k - (getS fs ns[i]).length - 1 := by omega
  have e3 : out ++ Sp.lower ns[i].data.toList ++ [58] ++ (valsS (getS fs ns[i]) ++ [10]) = out ++ nameS fs ns[i] := by
   unfold nameS
   simp only [List.append_assoc, List.singleton_append, List.cons_append, List.nil_append]
  rw [lockageref16_Split.l0, if_pos (by omega), if_pos (by omega), rdOf_at hlt, refGetB h _ hz k (by omega), Option.bind_some, Low_ev _ (by omega) k (by omega), Option.bind_some, hlw, if_pos (by rw [mkS_size, mkS_size, hls]; omega), if_pos (by rw [ByteArray.size_append, mkS_size, mkS_size, hls]; omega), mkS_app, show (⟨#[58]⟩ : ByteArray) = mkS [58] from rfl, mkS_app,
   show lockageref16_Split.l1 k ns fs _ (i : Int) (getS fs ns[i]) 0 = _ from hl1, e3, wrap_k i h1, ih (i + 1) _ _ (by omega) (by omega) (by rw [List.length_append]; omega) hk2, ed, List.append_assoc]
theorem refSplit_ev {fs : List S37} (h : FitK fs) (ns : List ByteArray) (hn : ns.length ≤ 4042110) (hs : ∀ x ∈ ns, x.size ≤ 1048576) (k : Nat) (hk : 9000000000 ≤ k) : lockageref16_Split.f k ns fs = some (mkS (splitS ns fs)) := by
 have h1 := splitS_len h ns hs
 have h2 : ns.length * 5090688 ≤ 4042110 * 5090688 := Nat.mul_le_mul hn (Nat.le_refl _)
 have hk2 : 2020 * ns.length + 1100000 ≤ k := by omega
 have := rsplit_l0 h ns hn hs 1100000 (Nat.le_refl _) ns.length 0 k [] (by omega) (by omega) (by rw [List.drop_zero]; simp only [List.length_nil]; omega) hk2
 rw [List.drop_zero] at this
 exact this
def setcL : ByteArray := ⟨#[115, 101, 116, 45, 99, 111, 111, 107, 105, 101]⟩
theorem refFits_ev (m t : ByteArray) (st : Int) (rs : ByteArray) (mi : Int) {a : List S37} (ha : FitK a) (ba : ByteArray) (m' t' : ByteArray) (st' : Int) (rs' : ByteArray) (mi' : Int) {b : List S37} (hb : FitK b) (bb : ByteArray) (m2 t2 : ByteArray) (st2 : Int) (rs2 : ByteArray) (mi2 : Int) {c : List S37} (hc : FitK c) (k : Nat) (hk : 9000000000 ≤ k) :
  lockageref16_Fits.f k m t st rs mi a ba m' t' st' rs' mi' b bb m2 t2 st2 rs2 mi2 c = some (fitsS a b c) := by
 obtain ⟨v1, v2⟩ := vary_names hc
 have hk1 : 21000000 ≤ k := by omega
 have hk2 : 5000000 ≤ k := by omega
 have hk3 : 8000 ≤ k := by omega
 have e := getS_low (a := setcL) (b := setcB) c (by decide)
 unfold lockageref16_Fits.f fitsS baseS privNo
 rw [refVary_ev hc k hk1, Option.bind_some, directs_two]
 cases (varyR c).2 with
 | false => rfl
 | true =>
  rw [if_pos rfl, refDirects_ev hc _ k hk2, Option.bind_some, refDirects_ev hc _ k hk2]
  cases hasT (itemsN c ccB) (⟨#[112, 114, 105, 118, 97, 116, 101]⟩ : ByteArray).toList with
  | true => rfl
  | false =>
   rw [if_neg (by decide), Option.bind_some]
   cases hasT (itemsN c ccB) (⟨#[110, 111, 45, 115, 116, 111, 114, 101]⟩ : ByteArray).toList with
   | true => rfl
   | false =>
    rw [if_neg (by decide), show lockageref05_Get.f k c (⟨#[115, 101, 116, 45, 99, 111, 111, 107, 105, 101]⟩ : ByteArray) = _ from refGetK hc setcL (by decide) k hk3, Option.bind_some, e]
    by_cases h0 : (getS c setcB).length = 0
    ·rw [if_pos (by omega), refSplit_ev ha _ v1 (fun x hx => by have := (v2 x hx).1; omega) k hk, Option.bind_some, refSplit_ev hb _ v1 (fun x hx => by have := (v2 x hx).1; omega) k hk, Option.bind_some, decide_eq_false (show ¬ ((getS c setcB).length : Int) > 0 by omega)]
     congr 1
     rw [Bool.eq_iff_iff, beq_iff_eq]
     simp only [Bool.or_self, Bool.not_false, Bool.and_self, Bool.true_and, decide_eq_true_eq]
     exact ⟨mkS_inj, fun h => by rw [h]⟩
    ·rw [if_neg (by omega), decide_eq_true (show ((getS c setcB).length : Int) > 0 by omega)]
     rfl
theorem parts_total (c : UInt8) : ∀ l : List UInt8, ((Sp.parts c l).map fun p => p.length + 1).sum = l.length + 1
 | [] => rfl
 | b :: l => by
  have ih := parts_total c l
  rw [Sp.parts]
  split
  ·rw [List.map_cons, List.sum_cons, ih]
   simp
   omega
  ·split
   ·rename_i e
    rw [e] at ih
    simp at ih
   ·rename_i p r e
    rw [e, List.map_cons, List.sum_cons] at ih
    rw [List.map_cons, List.sum_cons, List.length_cons, List.length_cons]
    omega
theorem slash_cons (p : ByteArray) (l : List ByteArray) : (slashL (p :: l)).length = p.size + 1 + (slashL l).length := by
 unfold slashL
 rw [List.flatMap_cons, List.length_append, List.length_cons, size_data]
theorem slash_app (a b : List ByteArray) : (slashL (a ++ b)).length = (slashL a).length + (slashL b).length := by
 unfold slashL
 rw [List.flatMap_append, List.length_append]
theorem slash_parts : ∀ (ps : List (List UInt8)), (slashL (ps.map H.mkB)).length = (ps.map fun p => p.length + 1).sum
 | [] => rfl
 | p :: ps => by
  rw [List.map_cons, slash_cons, slash_parts ps, List.map_cons, List.sum_cons, show (H.mkB p).size = p.length from mkS_size p]
theorem slash_kstep (out : List ByteArray) (p : ByteArray) : (slashL (kstep out p)).length ≤ (slashL out).length + p.size + 1 := by
 unfold kstep
 split
 ·have := slash_app (out.take (out.length - 1)) (out.drop (out.length - 1))
  rw [List.take_append_drop] at this
  omega
 ·split
  ·omega
  ·rw [slash_app, slash_cons]
   show _ + (p.size + 1 + 0) ≤ _
   omega
theorem slash_rAll : ∀ (l out : List ByteArray), (slashL (rAll out l)).length ≤ (slashL out).length + (slashL l).length + 1
 | [], out => by show (slashL out).length ≤ _; omega
 | [p], out => by
  have h := slash_kstep out p
  have e : (slashL [p]).length = p.size + 1 := by rw [slash_cons]; rfl
  show (slashL (rstep true out p)).length ≤ _
  unfold rstep
  rw [e]
  split
  ·rw [if_pos rfl, slash_app, slash_cons]
   show _ + (0 + 1 + 0) ≤ _
   omega
  ·rw [slash_app, e]
   omega
 | p :: q :: l, out => by
  have h := slash_kstep out p
  have ih := slash_rAll (q :: l) (rstep false out p)
  have e : (slashL (rstep false out p)).length ≤ (slashL out).length + p.size + 1 := by
   unfold rstep
   split
   ·rw [if_neg (by decide), List.append_nil]; exact h
   ·rw [slash_app, slash_cons]
    show _ + (p.size + 1 + 0) ≤ _
    omega
  show (slashL (rAll (rstep false out p) (q :: l))).length ≤ _
  rw [slash_cons p]
  omega
theorem normB_size (s : List UInt8) : (normB s).1.size ≤ 205 ∧ (normB s).2.1.size ≤ 200 := by
 unfold normB
 by_cases hl : s.length > 200
 ·rw [if_pos hl]; exact ⟨by decide, by decide⟩
 rw [if_neg hl]
 cases hp : plainS (s.take (queryAt (mkS s))) with
 | none => exact ⟨Nat.zero_le _, Nat.zero_le _⟩
 | some t =>
  have ht := (plainS_len _ _ _ (Nat.le_refl _) hp).1
  rw [List.length_take] at ht
  dsimp only
  split
  ·unfold okN
   dsimp only
   have h1 := slash_rAll (segsB ((mkS t).extract 1 (mkS t).size)) []
   have h2 : (slashL (segsB ((mkS t).extract 1 (mkS t).size))).length = ((mkS t).extract 1 (mkS t).size).size + 1 := by
    unfold segsB
    rw [slash_parts, parts_total, size_data]
   have h3 : ((mkS t).extract 1 (mkS t).size).size ≤ t.length := by rw [ext_tail, mkS_size, List.length_drop]; omega
   have h4 : (slashL []).length = 0 := rfl
   refine ⟨by rw [mkS_size]; omega, by rw [mkS_size, List.length_drop]; omega⟩
  ·exact ⟨Nat.zero_le _, Nat.zero_le _⟩
def keyS (m t : ByteArray) (fs : List S37) : ByteArray × Int := if (normB t.data.toList).2.2 = 0 then (keyOfB m (hostOf fs) (normB t.data.toList).1 (normB t.data.toList).2.1, 0) else ((⟨#[]⟩ : ByteArray), (normB t.data.toList).2.2)
theorem ownKey_ev (m t : ByteArray) (st : Int) (rs : ByteArray) (mi : Int) {fs : List S37} (h : FitK fs) (body : ByteArray) (hm : m.size ≤ 1048576) (k : Nat) (hk : 20000 ≤ k) : key_Key.f k m t st rs mi fs body = some (keyS m t fs) := by
 have hn : target_Normal.f k t = some (normB t.data.toList) := by
  have := ownNormal_ev t.data.toList k hk
  rw [mkS_self] at this
  exact this
 obtain ⟨s1, s2⟩ := normB_size t.data.toList
 unfold keyS
 generalize normB t.data.toList = n at *
 obtain ⟨p, q, c⟩ := n
 by_cases hc : c = 0
 ·subst hc
  rw [if_pos rfl]
  exact key_Key_ev m t st rs mi h body p q k hm (Nat.le_trans s1 (by decide)) (Nat.le_trans s2 (by decide)) (by omega) hn
 ·unfold key_Key.f
  rw [hn, Option.bind_some]
  dsimp only
  rw [if_neg hc, if_neg hc]
theorem lowHost {fs : List S37} (h : FitK fs) (k : Nat) (hk : 8000 ≤ k) (n : ByteArray) (hn : n = hostOf fs) : lockageref05_Lower.f k n = some (mkS (Sp.lower (hostOf fs).data.toList)) := by
 subst hn
 have := hostOf_size h
 exact Low_ev _ (by omega) k (by omega)
theorem join3_eq (a b c : ByteArray) : joinB [a, b, c] (⟨#[32]⟩ : ByteArray) = (((a ++ (⟨#[32]⟩ : ByteArray)) ++ b) ++ (⟨#[32]⟩ : ByteArray)) ++ c := by
 unfold joinB
 refine H.ba_ext ?_
 simp [Lib.join, ByteArray.data_append, Array.toList_append]
theorem refKey_ev (m t : ByteArray) (st : Int) (rs : ByteArray) (mi : Int) {fs : List S37} (h : FitK fs) (body : ByteArray) (hm : m.size ≤ 1048576) (k : Nat) (hk : 20000 ≤ k) : lockageref16_Key.f k m t st rs mi fs body = some (keyS m t fs) := by
 have hn : lockageref13_Normal.f k t = some (normB t.data.toList) := by
  have := refNormal_ev t.data.toList k hk
  rw [mkS_self] at this
  exact this
 obtain ⟨s1, s2⟩ := normB_size t.data.toList
 have hh := hostOf_size h
 have eh := getS_low (a := hostL) (b := hostB) fs (by decide)
 unfold keyS lockageref16_Key.f
 generalize normB t.data.toList = n at *
 obtain ⟨p, q, c⟩ := n
 rw [hn, Option.bind_some]
 dsimp only at s1 s2 ⊢
 by_cases hc : c = 0
 ·have s32 : (⟨#[32]⟩ : ByteArray).size = 1 := rfl
  have s0 : (⟨#[]⟩ : ByteArray).size = 0 := rfl
  rw [if_pos hc, if_pos hc, show lockageref05_Get.f k fs (⟨#[104, 111, 115, 116]⟩ : ByteArray) = _ from refGetK h hostL (by decide) k (by omega), Option.bind_some, eh]
  unfold keyOfB
  rw [join3_eq, ← ByteArray.append_assoc (b := p)]
  by_cases h0 : 0 < (getS fs hostB).length
  ·have e1 : rdOf ByteArray.empty (getS fs hostB) 0 = hostOf fs := by
    unfold hostOf rdOf
    have : (0 : Int).toNat = 0 := rfl
    rw [this, List.getD_eq_getElem?_getD, List.getD_eq_getElem?_getD, List.getElem?_append_left h0]
   have e2 : (⟨(Sp.lower (hostOf fs).data.toList).toArray⟩ : ByteArray) = mkS (Sp.lower (hostOf fs).data.toList) := rfl
   have e3 : (mkS (Sp.lower (hostOf fs).data.toList)).size ≤ 2010 := by rw [mkS_size, Sp.lower_length, size_data]; exact hh
   rw [if_pos (by omega), if_pos (by omega), lowHost h k (by omega) _ e1, Option.bind_some, e2]
   generalize mkS (Sp.lower (hostOf fs).data.toList) = L at *
   simp only [ByteArray.size_append, s32]
   rw [if_pos (by omega), if_pos (by omega), if_pos (by omega), if_pos (by omega), if_pos (by omega)]
  ·have e0 : getS fs hostB = [] := List.eq_nil_of_length_eq_zero (by omega)
   have e1 : (⟨(Sp.lower (hostOf fs).data.toList).toArray⟩ : ByteArray) = (⟨#[]⟩ : ByteArray) := by
    unfold hostOf
    rw [e0]
    rfl
   rw [if_neg (by omega), e1]
   simp only [ByteArray.size_append, s32, s0]
   rw [if_pos (by omega), if_pos (by omega), if_pos (by omega), if_pos (by omega), if_pos (by omega)]
 ·rw [if_neg hc, if_neg hc]
theorem same_ok (m t : ByteArray) (st : Int) (rs : ByteArray) (mi : Int) {a : List S37} (ha : FitK a) (ba : ByteArray) (m' t' : ByteArray) (st' : Int) (rs' : ByteArray) (mi' : Int) {b : List S37} (hb : FitK b) (bb : ByteArray) (m2 t2 : ByteArray) (st2 : Int) (rs2 : ByteArray) (mi2 : Int) {c : List S37} (hc : FitK c) (ns : List ByteArray) (hn : ns.length ≤ 4042110) (hs : ∀ x ∈ ns, x.size ≤ 1048576) (hm : m.size ≤ 1048576) (k : Nat) (hk : 9000000000 ≤ k) :
  lockagelaw16_same.f k m t st rs mi a ba m' t' st' rs' mi' b bb m2 t2 st2 rs2 mi2 c ns = some true := by
 have hk1 : 20000 ≤ k := by omega
 have hk2 : 3000 ≤ k := by omega
 have hk3 : 21000000 ≤ k := by omega
 have hk4 : 6000000 ≤ k := by omega
 have hk5 : 5000000 ≤ k := by omega
 have hv := (vary_names hc).1
 unfold lockagelaw16_same.f
 rw [ownKey_ev m t st rs mi ha ba hm k hk1, Option.bind_some, refKey_ev m t st rs mi ha ba hm k hk1, Option.bind_some, key_Vary_ev hc k hk2, Option.bind_some, refVary_ev hc k hk3, Option.bind_some, key_Shared_ev m t st rs mi ha ba k hk2, Option.bind_some, refShared_ev m t st rs mi ha ba k hk4, Option.bind_some, if_pos (beq_self_eq_true _), if_pos rfl, if_pos rfl, Strings_any _ _ (by omega) k (by omega), Option.bind_some, if_pos (by simp), if_pos (beq_self_eq_true _), key_Split_ev ha ns hn hs k hk5, Option.bind_some, refSplit_ev ha ns hn hs k hk, Option.bind_some, if_pos rfl, key_Fits_ev m t st rs mi ha ba m' t' st' rs' mi' hb bb m2 t2 st2 rs2 mi2 hc k (by omega), Option.bind_some, refFits_ev m t st rs mi ha ba m' t' st' rs' mi' hb bb m2 t2 st2 rs2 mi2 hc k hk, Option.bind_some, beq_self_eq_true]
end Go.Proofs.YthmallhjbhphgaaGreatDoor.P
