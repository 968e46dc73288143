/- Several parts together: Heads as texts: what head.Parse comes to, of any text; plain Lean, no program; What head.Parse comes to, whole; plain Lean, no program; A head's text: what head.Print comes to, of any head, and that it is parsed to the same; plain Lean, no program; A right head's text is parsed to the same head; what is parsed is right; plain Lean, no program; What is parsed is right, and its text is not much longer; made heads; awake; plain Lean, no program; The reference's comparing of heads, and a text cut by four bytes; plain Lean, no program. -/
import Derived.Test.YtapeodbgobkjeaaGreatDoorP7
import Derived.Test.YtapeodbgobkjeaaGreatDoorHJ5
import Derived.Test.YtapeodbgobkjeaaGreatDoorPx6
import Derived.Test.YtapeodbgobkjeaaGreatDoorPx7
import Derived.Test.YtapeodbgobkjeaaGreatDoorPx5
import Derived.Test.YtapeodbgobkjeaaGreatDoorPx44
import Derived.Test.YtapeodbgobkjeaaGreatDoorPx11
set_option linter.unusedVariables false
set_option linter.unusedSimpArgs false
namespace Go.Proofs.YtapeodbgobkjeaaGreatDoor.P
open Go.RowKit Go.Proofs.YtapeodbgobkjeaaGreatDoorW.PrintWords Go.Proofs.YtapeodbgobkjeaaGreatDoorW.PrintLast Go.Proofs.YtapeodbgobkjeaaGreatDoorW.PrintMore
def mkL (l : List UInt8) : ByteArray := ⟨l.toArray⟩
theorem mkL_data (l : List UInt8) : (mkL l).data.toList = l := rfl
theorem mkL_size (l : List UInt8) : (mkL l).size = l.length := mk_size l
theorem mkL_back (x : ByteArray) : mkL x.data.toList = x := H.ba_ext rfl
def wordsL (l : List UInt8) : List (List UInt8) :=
 if (32 : UInt8) ∈ l then (if (32 : UInt8) ∈ Sp.cutR 32 l then [Sp.cutL 32 l, Sp.cutL 32 (Sp.cutR 32 l), Sp.cutR 32 (Sp.cutR 32 l)] else [Sp.cutL 32 l, Sp.cutR 32 l]) else [l]
def ver3 (a b c : UInt8) : Int × Int := if (isDig a && (b == 46 && isDig c)) = true then (if (a == 49 && c == 48) = true then (0, 0) else if (a == 49 && c == 49) = true then (1, 0) else (0, 24)) else (0, 20)
def verR : List UInt8 → Int × Int
 | [a, b, c] => ver3 a b c
 | _ => (0, 20)
def verL (l : List UInt8) : Int × Int := if Lib.hasPrefix l [72, 84, 84, 80, 47] = true then verR (l.drop 5) else (0, 20)
end Go.Proofs.YtapeodbgobkjeaaGreatDoor.P
namespace Go.Proofs.YtapeodbgobkjeaaGreatDoor.P
open Go.RowKit Go.Proofs.YtapeodbgobkjeaaGreatDoorW.PrintWords Go.Proofs.YtapeodbgobkjeaaGreatDoorW.PrintLast Go.Proofs.YtapeodbgobkjeaaGreatDoorW.PrintMore
abbrev Hd := ByteArray × ByteArray × Int × ByteArray × Int
def zeroH : Hd := (⟨#[]⟩, ⟨#[]⟩, 0, ⟨#[]⟩, 0)
def reqP (w0 w1 w2 : List UInt8) : Hd × Int :=
 if (Sp.nameB w0 && targetS w1) = true then (if (verL w2).2 = 0 then ((mkL w0, mkL w1, 0, ⟨#[]⟩, (verL w2).1), 0) else (zeroH, (verL w2).2)) else (zeroH, 20)
def ansP (w0 w1 w2 : List UInt8) : Hd × Int :=
 if (decide (w1.length = 3) && (w1.all isDig && reasonS w2)) = true then (if (verL w0).2 = 0 then (if (decide (100 ≤ (parseS w1).1) && decide ((parseS w1).1 ≤ 599)) = true then ((⟨#[]⟩, ⟨#[]⟩, (parseS w1).1, mkL w2, (verL w0).1), 0) else (zeroH, 20)) else (zeroH, (verL w0).2)) else (zeroH, 20)
def firstW (ans : Bool) : List (List UInt8) → Hd × Int
 | [w0, w1, w2] => if ans = true then ansP w0 w1 w2 else reqP w0 w1 w2
 | _ => (zeroH, 20)
def firstP (ans : Bool) (l : List UInt8) : Hd × Int := firstW ans (wordsL l)
theorem status_ev (n : Int) : head_status.f n = some (decide (100 ≤ n) && decide (n ≤ 599)) := by
 unfold head_status.f
 by_cases h : n ≥ 100
 ·rw [if_pos h, decide_eq_true (show 100 ≤ n from h), Bool.true_and]
 ·rw [if_neg h, decide_eq_false (show ¬ 100 ≤ n from h), Bool.false_and]
end Go.Proofs.YtapeodbgobkjeaaGreatDoor.P
namespace Go.Proofs.YtapeodbgobkjeaaGreatDoor.P
open Go.RowKit Go.Proofs.YtapeodbgobkjeaaGreatDoorW.PrintWords Go.Proofs.YtapeodbgobkjeaaGreatDoorW.PrintLast Go.Proofs.YtapeodbgobkjeaaGreatDoorW.PrintMore
def rightS (m t : ByteArray) (st : Int) (rs : ByteArray) (mi : Int) (fs : List S40) (ans : Bool) : Bool :=
 if mi < 0 then false else if mi > 1 then false else if fs.length > 20 then false else if fs.any badF = true then false else
 if ans = true then (decide (m.data.toList = []) && (decide (t.data.toList = []) && ((decide (100 ≤ st) && decide (st ≤ 599)) && reasonS rs.data.toList)))
 else (Sp.nameB m.data.toList && (targetS t.data.toList && (decide (st = 0) && decide (rs.data.toList = []))))
theorem Right_ev (m t : ByteArray) (st : Int) (rs : ByteArray) (mi : Int) (fs : List S40) (ans : Bool) (hm : m.size ≤ 1000000000000) (ht : t.size ≤ 1000000000000) (hr : rs.size ≤ 1000000000000) (hf : smallF fs = true) (k : Nat) (hk : 2 * m.size + 2 * t.size + 2 * rs.size + 10 ≤ k) :
  head_Right.f k m t st rs mi fs ans = some (rightS m t st rs mi fs ans) := by
 unfold head_Right.f rightS
 rw [if_pos hf]
 by_cases h1 : mi < 0
 ·rw [if_pos h1, if_pos h1]
 rw [if_neg h1, if_neg h1]
 by_cases h2 : mi > 1
 ·rw [if_pos h2, if_pos h2]
 rw [if_neg h2, if_neg h2]
 by_cases h3 : fs.length > 20
 ·rw [if_pos (by omega), if_pos h3]
 rw [if_neg (by omega), if_neg h3]
 by_cases h4 : fs.any badF = true
 ·rw [if_pos h4, if_pos h4]
 rw [if_neg h4, if_neg h4]
 cases ans with
 | true =>
  rw [if_pos rfl, if_pos rfl, if_pos (by omega), toList_data, ByteArray.data_append, Array.toList_append]
  by_cases h5 : m.data.toList = []
  ·by_cases h6 : t.data.toList = []
   ·rw [if_pos (by rw [h5, h6]; rfl), status_ev, Option.bind_some, decide_eq_true h5, decide_eq_true h6, Bool.true_and, Bool.true_and]
    cases (decide (100 ≤ st) && decide (st ≤ 599)) with
    | true => rw [if_pos rfl, reason_ev rs (by omega) k (by omega), Bool.true_and]
    | false => rw [if_neg (by decide), Bool.false_and]
   ·rw [if_neg (fun e => h6 (List.append_eq_nil_iff.1 e).2), decide_eq_false h6, Bool.false_and, Bool.and_false]
  ·rw [if_neg (fun e => h5 (List.append_eq_nil_iff.1 e).1), decide_eq_false h5, Bool.false_and]
 | false =>
  have hft : ¬ ((false : Bool) = true) := by decide
  rw [if_neg hft, if_neg hft, name_f (by omega), Option.bind_some]
  cases Sp.nameB m.data.toList with
  | false => rw [if_neg (by decide), Bool.false_and]
  | true =>
   rw [if_pos rfl, target_ev t (by omega) k (by omega), Option.bind_some, Bool.true_and]
   cases targetS t.data.toList with
   | false => rw [if_neg (by decide), Bool.false_and]
   | true =>
    rw [if_pos rfl, Bool.true_and]
    by_cases h5 : st = 0
    ·have e6 : (rs.data.toList == []) = decide (rs.data.toList = []) := by cases rs.data.toList <;> rfl
     rw [if_pos h5, decide_eq_true h5, Bool.true_and, toList_data, e6]
    ·rw [if_neg h5, decide_eq_false h5, Bool.false_and]
def decL (n : Int) : List UInt8 := (H.text10 n).data.toList
def http1 : List UInt8 := [72, 84, 84, 80, 47, 49, 46]
def lineS (ans : Bool) (m t : List UInt8) (st : Int) (rs : List UInt8) (mi : Int) : List UInt8 :=
 if ans = true then (http1 ++ decL mi) ++ 32 :: (decL st ++ 32 :: rs) else m ++ 32 :: (t ++ 32 :: (http1 ++ decL mi))
def fldS (f : S40) : List UInt8 := f.f0.data.toList ++ 58 :: 32 :: f.f1.data.toList
def bodyS (ans : Bool) (m t : ByteArray) (st : Int) (rs : ByteArray) (mi : Int) (fs : List S40) : List UInt8 :=
 Lib.join (lineS ans m.data.toList t.data.toList st rs.data.toList mi :: fs.map fldS) [13, 10]
theorem text_f (n : Int) (h0 : 0 ≤ n) (h1 : n ≤ 1000) : num_Text.f n 10 = some (H.text10 n) := by
 unfold num_Text.f
 rw [if_pos rfl, if_pos (by omega), if_pos (by omega)]
theorem decL_small : ∀ n : Int, 0 ≤ n → n ≤ 600 → (decL n).length ≤ 3 := by
 have a : ((List.range 601).all fun n => decide ((decL (n : Int)).length ≤ 3)) = true := by kernel_rfl
 intro n h0 h1
 rw [List.all_eq_true] at a
 have := a n.toNat (List.mem_range.2 (by omega))
 rw [Int.toNat_of_nonneg h0] at this
 simpa using this
theorem joinB_mk (ls : List (List UInt8)) (sep : List UInt8) : joinB (ls.map mkL) (mkL sep) = mkL (Lib.join ls sep) := by
 unfold joinB
 rw [List.map_map, mkL_data]
 have : ((fun x : ByteArray => x.data.toList) ∘ mkL) = id := rfl
 rw [this, List.map_id]
 rfl
theorem lens_fs (B : Nat) : ∀ fs : List S40, (∀ f ∈ fs, f.f0.size ≤ B ∧ f.f1.size ≤ B) → Lib.lens (fs.map fldS) ≤ fs.length * (2 * B + 2)
 | [], _ => by simp [Lib.lens]
 | f :: fs, h => by
  have h1 := h f (by simp)
  have h2 := lens_fs B fs fun x hx => h x (List.mem_cons_of_mem _ hx)
  have e : Lib.lens ((f :: fs).map fldS) = (fldS f).length + Lib.lens (fs.map fldS) := by simp [Lib.lens]
  have e2 : (fldS f).length = f.f0.size + f.f1.size + 2 := by
   unfold fldS
   rw [List.length_append, List.length_cons, List.length_cons, size_data, size_data]
   omega
  rw [e, e2, List.length_cons, Nat.succ_mul]
  omega
theorem join_len (x : List UInt8) (r : List (List UInt8)) (sep : List UInt8) : (Lib.join (x :: r) sep).length = x.length + (sep.length * r.length + Lib.lens r) := by
 rw [Lib.join_cons, List.length_append, Lib.joinTail_length]
theorem Print_l0 (fs : List S40) (hs : ∀ f ∈ fs, f.f0.size ≤ 100000 ∧ f.f1.size ≤ 100000) (hl : fs.length ≤ 20) (x : List UInt8) (hx : x.length ≤ 1000000) (d : Nat) :
  ∀ (i k : Nat), fs.length - i = d → i ≤ fs.length → d + 1 ≤ k →
   head_Print.l0 k ((x :: (fs.take i).map fldS).map mkL) fs (fs.length : Int) i = some (if (Lib.join (x :: fs.map fldS) [13, 10]).length > 2000 then (⟨#[]⟩, 2) else (mkL (Lib.join (x :: fs.map fldS) [13, 10] ++ [13, 10, 13, 10]), 0)) := by
 induction d with
 | zero =>
  intro i k hd hi hk
  obtain ⟨k, rfl⟩ : ∃ j, k = j + 1 := ⟨k - 1, by omega⟩
  have e : strings_Join.f ((x :: (fs.take i).map fldS).map mkL) ⟨#[13, 10]⟩ = some (mkL (Lib.join (x :: fs.map fldS) [13, 10])) := by
   rw [List.take_of_length_le (by omega)]
   have h1 := joinB_mk (x :: fs.map fldS) [13, 10]
   have h2 := lens_fs 100000 fs hs
   have h3 := join_len x (fs.map fldS) [13, 10]
   have h4 : fs.length * (2 * 100000 + 2) ≤ 20 * (2 * 100000 + 2) := Nat.mul_le_mul_right _ hl
   unfold strings_Join.f
   rw [if_pos]
   ·exact congrArg some h1
   ·refine ⟨by rw [List.length_map, List.length_cons, List.length_map]; omega, ?_⟩
    show (joinB ((x :: fs.map fldS).map mkL) (mkL [13, 10])).size ≤ _
    rw [h1, mkL_size, h3, List.length_map]
    show x.length + (2 * fs.length + _) ≤ _
    omega
  rw [head_Print.l0, if_neg (by omega), e, Option.bind_some, mkL_size]
  by_cases h : (Lib.join (x :: fs.map fldS) [13, 10]).length > 2000
  ·rw [if_pos (by omega), if_pos h]
  ·have e2 : (mkL (Lib.join (x :: fs.map fldS) [13, 10]) ++ (⟨#[13, 10]⟩ : ByteArray)).size = (Lib.join (x :: fs.map fldS) [13, 10]).length + 2 := by rw [ByteArray.size_append, mkL_size]; rfl
   rw [if_neg (by omega), if_neg h, if_pos (by omega), if_pos (by omega)]
   refine congrArg some (congrArg (·, (0 : Int)) (H.ba_ext ?_))
   rw [ByteArray.data_append, ByteArray.data_append, Array.toList_append, Array.toList_append, mkL_data, mkL_data, List.append_assoc]
   rfl
 | succ d ih =>
  intro i k hd hi hk
  obtain ⟨k, rfl⟩ : ∃ j, k = j + 1 := ⟨k - 1, by omega⟩
  have hlt : i < fs.length := by omega
  have hrd : rd_T40 fs (i : Int) = fs[i] := by simp [rd_T40, hlt]
  have h1 := hs fs[i] (List.getElem_mem hlt)
  have s2 : (fs[i].f0 ++ (⟨#[58, 32]⟩ : ByteArray)).size = fs[i].f0.size + 2 := by rw [ByteArray.size_append]; rfl
  have hlen : ((x :: (fs.take i).map fldS).map mkL).length = i + 1 := by rw [List.length_map, List.length_cons, List.length_map, List.length_take]; omega
  have he : (fs[i].f0 ++ (⟨#[58, 32]⟩ : ByteArray)) ++ fs[i].f1 = mkL (fldS fs[i]) := H.ba_ext (by
   rw [ByteArray.data_append, ByteArray.data_append, Array.toList_append, Array.toList_append, mkL_data]
   unfold fldS
   rw [List.append_assoc]
   rfl)
  rw [head_Print.l0, if_pos (by omega), if_pos (by omega), if_pos (by omega), hrd, if_pos (by omega), if_pos (by omega), if_pos (by rw [hlen]; omega), he, wrap_nx i (by omega)]
  have ih2 := ih (i + 1) k (by omega) (by omega) (by omega)
  have et : (x :: (fs.take (i + 1)).map fldS).map mkL = (x :: (fs.take i).map fldS).map mkL ++ [mkL (fldS fs[i])] := by
   rw [List.take_succ_eq_append_getElem hlt, List.map_append, List.map_cons, List.map_cons, List.map_append]
   rfl
  rw [et] at ih2
  exact ih2
theorem Print_ev (m t : ByteArray) (st : Int) (rs : ByteArray) (mi : Int) (fs : List S40) (ans : Bool) (hm : m.size ≤ 100000) (ht : t.size ≤ 100000) (hr : rs.size ≤ 100000) (hs : ∀ f ∈ fs, f.f0.size ≤ 100000 ∧ f.f1.size ≤ 100000) (k : Nat) (hk : 700000 ≤ k) :
  head_Print.f k m t st rs mi fs ans = some (if rightS m t st rs mi fs ans = true then (if (bodyS ans m t st rs mi fs).length > 2000 then (⟨#[]⟩, 2) else (mkL (bodyS ans m t st rs mi fs ++ [13, 10, 13, 10]), 0)) else (⟨#[]⟩, 1)) := by
 have hf : smallF fs = true := by
  unfold smallF
  rw [List.all_eq_true]
  intro x hx
  have := hs x hx
  simp only [Bool.and_eq_true, decide_eq_true_eq]
  omega
 unfold head_Print.f
 rw [Right_ev m t st rs mi fs ans (by omega) (by omega) (by omega) hf k (by omega), Option.bind_some]
 cases hR : rightS m t st rs mi fs ans with
 | false => rw [if_neg (by decide), if_neg (by decide)]
 | true =>
  obtain ⟨k, rfl⟩ : ∃ j, k = j + 1 := ⟨k - 1, by omega⟩
  unfold rightS at hR
  split at hR
  ·cases hR
  split at hR
  ·cases hR
  split at hR
  ·cases hR
  split at hR
  ·cases hR
  rename_i g1 g2 g3 g4
  have hmi := decL_small mi (by omega) (by omega)
  have ht10 : (H.text10 mi).size ≤ 3 := by rw [← size_data]; exact hmi
  rw [if_pos rfl, if_pos rfl, text_f mi (by omega) (by omega), Option.bind_some, if_pos (by omega)]
  have hj : ∀ (a b c : List UInt8), a.length + b.length + c.length ≤ 300000 → head_Print.j0 (k + 1) [mkL a, mkL b, mkL c] m t st rs mi fs = some (if (Lib.join ((a ++ 32 :: (b ++ 32 :: c)) :: fs.map fldS) [13, 10]).length > 2000 then (⟨#[]⟩, 2) else (mkL (Lib.join ((a ++ 32 :: (b ++ 32 :: c)) :: fs.map fldS) [13, 10] ++ [13, 10, 13, 10]), 0)) := by
   intro a b c hl
   have ej : Lib.join [a, b, c] [32] = a ++ 32 :: (b ++ 32 :: c) := by rw [Lib.join_cons]; simp [Lib.joinTail]
   have e : strings_Join.f [mkL a, mkL b, mkL c] ⟨#[32]⟩ = some (mkL (a ++ 32 :: (b ++ 32 :: c))) := by
    have h1 := joinB_mk [a, b, c] [32]
    rw [ej] at h1
    unfold strings_Join.f
    rw [if_pos]
    ·exact congrArg some h1
    ·refine ⟨by show 3 ≤ _; omega, ?_⟩
     show (joinB ([a, b, c].map mkL) (mkL [32])).size ≤ _
     rw [h1, mkL_size]
     simp only [List.length_append, List.length_cons]
     omega
   rw [head_Print.j0, e, Option.bind_some]
   have := Print_l0 fs hs (by omega) (a ++ 32 :: (b ++ 32 :: c)) (by simp only [List.length_append, List.length_cons]; omega) fs.length 0 k (Nat.sub_zero _) (Nat.zero_le _) (by omega)
   exact this
  have ev : (⟨#[72, 84, 84, 80, 47, 49, 46]⟩ : ByteArray) ++ H.text10 mi = mkL (http1 ++ decL mi) := H.ba_ext (by rw [ByteArray.data_append, Array.toList_append, mkL_data]; rfl)
  have hv : (http1 ++ decL mi).length ≤ 10 := by rw [List.length_append]; show 7 + _ ≤ _; omega
  unfold bodyS lineS
  cases ans with
  | true =>
   rw [if_pos rfl] at hR
   simp only [Bool.and_eq_true, decide_eq_true_eq] at hR
   have hst := decL_small st (by omega) (by omega)
   rw [if_pos rfl, text_f st (by omega) (by omega), Option.bind_some, ev, if_pos rfl]
   have := hj (http1 ++ decL mi) (decL st) rs.data.toList (by rw [size_data]; omega)
   have e1 : mkL (decL st) = H.text10 st := mkL_back _
   rw [e1, mkL_back] at this
   exact this
  | false =>
   have hft : ¬ ((false : Bool) = true) := by decide
   rw [if_neg hft, ev, if_neg hft]
   have := hj m.data.toList t.data.toList (http1 ++ decL mi) (by rw [size_data, size_data]; omega)
   rw [mkL_back, mkL_back] at this
   exact this
end Go.Proofs.YtapeodbgobkjeaaGreatDoor.P
namespace Go.Proofs.YtapeodbgobkjeaaGreatDoor.P
open Go.RowKit Go.Proofs.YtapeodbgobkjeaaGreatDoorW.PrintWords Go.Proofs.YtapeodbgobkjeaaGreatDoorW.PrintLast Go.Proofs.YtapeodbgobkjeaaGreatDoorW.PrintMore
theorem nameC_not {c : UInt8} (h : Sp.nameC c = true) : c ≠ 13 ∧ c ≠ 32 ∧ c ≠ 58 := by
 have a : ((List.range 256).all fun n => !Sp.nameC (UInt8.ofNat n) || (decide (UInt8.ofNat n ≠ 13) && (decide (UInt8.ofNat n ≠ 32) && decide (UInt8.ofNat n ≠ 58)))) = true := by kernel_rfl
 have := byte_all a c
 rw [byte_back, h] at this
 simpa using this
theorem targC_not {c : UInt8} (h : targC c = true) : c ≠ 13 ∧ c ≠ 32 := by
 have a : ((List.range 256).all fun n => !targC (UInt8.ofNat n) || (decide (UInt8.ofNat n ≠ 13) && decide (UInt8.ofNat n ≠ 32))) = true := by kernel_rfl
 have := byte_all a c
 rw [byte_back, h] at this
 simpa using this
theorem valC_not {c : UInt8} (h : Sp.valC c = true) : c ≠ 13 := by
 have a : ((List.range 256).all fun n => !Sp.valC (UInt8.ofNat n) || decide (UInt8.ofNat n ≠ 13)) = true := by kernel_rfl
 have := byte_all a c
 rw [byte_back, h] at this
 simpa using this
theorem name_not {l : List UInt8} (h : Sp.nameB l = true) : (∀ c ∈ l, c ≠ 13 ∧ c ≠ 32 ∧ c ≠ 58) ∧ l.length ≤ 40 := by
 unfold Sp.nameB Sp.allB at h
 simp only [Bool.and_eq_true, List.all_eq_true, decide_eq_true_eq] at h
 exact ⟨fun c hc => nameC_not (h.2.2 c hc), h.2.1⟩
theorem targ_not {l : List UInt8} (h : targetS l = true) : (∀ c ∈ l, c ≠ 13 ∧ c ≠ 32) ∧ l.length ≤ 200 := by
 unfold targetS at h
 simp only [Bool.and_eq_true, List.all_eq_true, decide_eq_true_eq] at h
 exact ⟨fun c hc => targC_not (h.2.2 c hc), h.2.1⟩
theorem reason_not {l : List UInt8} (h : reasonS l = true) : (∀ c ∈ l, c ≠ 13) ∧ l.length ≤ 200 := by
 unfold reasonS at h
 simp only [Bool.and_eq_true, List.all_eq_true, decide_eq_true_eq] at h
 exact ⟨fun c hc => valC_not (h.2 c hc), h.1⟩
theorem val_not {l : List UInt8} (h : Sp.valB l = true) : (∀ c ∈ l, c ≠ 13) ∧ l.length ≤ 200 ∧ Sp.trim l = l := by
 unfold Sp.valB Sp.allB at h
 simp only [Bool.and_eq_true, List.all_eq_true, decide_eq_true_eq, beq_iff_eq] at h
 exact ⟨fun c hc => valC_not (h.2.2 c hc), h.1, h.2.1⟩
theorem cut_at (c : UInt8) : ∀ (a r : List UInt8), (∀ x ∈ a, x ≠ c) → Sp.cutL c (a ++ c :: r) = a ∧ Sp.cutR c (a ++ c :: r) = r := by
 intro a r h
 have hm : c ∈ a ++ c :: r := by simp
 have hu : upto c (a ++ c :: r) = a.length := by
  induction a with
  | nil => exact upto_hit c r
  | cons x a ih =>
   rw [List.cons_append, upto_miss (h x (by simp)), ih (fun y hy => h y (List.mem_cons_of_mem _ hy)) (by simp)]
   rfl
 rw [← cutL_upto, ← cutR_upto _ _ hm, hu]
 constructor
 ·rw [List.take_left']; rfl
 ·rw [← List.drop_drop, List.drop_left' rfl]
  rfl
theorem words_at (a b c : List UInt8) (ha : ∀ x ∈ a, x ≠ 32) (hb : ∀ x ∈ b, x ≠ 32) : wordsL (a ++ 32 :: (b ++ 32 :: c)) = [a, b, c] := by
 obtain ⟨p1, p2⟩ := cut_at 32 a (b ++ 32 :: c) ha
 obtain ⟨q1, q2⟩ := cut_at 32 b c hb
 unfold wordsL
 rw [if_pos (by simp), p1, p2, if_pos (by simp), q1, q2]
theorem ver_dec (mi : Int) (h0 : ¬ mi < 0) (h1 : ¬ mi > 1) : verL (http1 ++ decL mi) = (mi, 0) ∧ (∀ c ∈ http1 ++ decL mi, c ≠ 13 ∧ c ≠ 32) ∧ (http1 ++ decL mi).length = 8 := by
 have : mi = 0 ∨ mi = 1 := by omega
 have a : ((List.range 2).all fun n => (verL (http1 ++ decL (n : Int)) == ((n : Int), 0)) && (((http1 ++ decL (n : Int)).all fun c => decide (c ≠ 13 ∧ c ≠ 32)) && decide ((http1 ++ decL (n : Int)).length = 8))) = true := by kernel_rfl
 rw [List.all_eq_true] at a
 have b := a mi.toNat (List.mem_range.2 (by omega))
 rw [Int.toNat_of_nonneg (by omega)] at b
 simp only [Bool.and_eq_true, beq_iff_eq, List.all_eq_true, decide_eq_true_eq] at b
 exact ⟨b.1, b.2.1, b.2.2⟩
theorem st_dec (st : Int) (h0 : 100 ≤ st) (h1 : st ≤ 599) : parseS (decL st) = (st, 0) ∧ (decL st).all isDig = true ∧ (decL st).length = 3 ∧ (∀ c ∈ decL st, c ≠ 13 ∧ c ≠ 32) := by
 have a : ((List.range 500).all fun n => (parseS (decL ((n + 100 : Nat) : Int)) == (((n + 100 : Nat) : Int), 0)) && ((decL ((n + 100 : Nat) : Int)).all isDig && (decide ((decL ((n + 100 : Nat) : Int)).length = 3) && ((decL ((n + 100 : Nat) : Int)).all fun c => decide (c ≠ 13 ∧ c ≠ 32))))) = true := by kernel_rfl
 rw [List.all_eq_true] at a
 have b := a (st.toNat - 100) (List.mem_range.2 (by omega))
 rw [show ((st.toNat - 100 + 100 : Nat) : Int) = st by omega] at b
 simp only [Bool.and_eq_true, beq_iff_eq, decide_eq_true_eq] at b
 refine ⟨b.1, b.2.1, b.2.2.1, fun c hc => ?_⟩
 have := List.all_eq_true.1 b.2.2.2 c hc
 simpa using this
theorem fld_parse (f : S40) (h : badF f = false) : fieldP (fldS f) = (f.f0, f.f1, 0) ∧ (∀ c ∈ fldS f, c ≠ 13) ∧ f.f0.size ≤ 40 ∧ f.f1.size ≤ 200 := by
 unfold badF at h
 rw [Bool.or_eq_false_iff] at h
 have hn : Sp.nameB f.f0.data.toList = true := by simpa using h.1
 have hv : Sp.valB f.f1.data.toList = true := by simpa using h.2
 obtain ⟨n1, n2⟩ := name_not hn
 obtain ⟨v1, v2, v3⟩ := val_not hv
 obtain ⟨c1, c2⟩ := cut_at 58 f.f0.data.toList (32 :: f.f1.data.toList) (fun x hx => (n1 x hx).2.2)
 have ht : Sp.trim (32 :: f.f1.data.toList) = f.f1.data.toList := by rw [Sp.trim_blank (by decide), v3]
 refine ⟨?_, ?_, by rw [← size_data]; exact n2, by rw [← size_data]; exact v2⟩
 ·unfold fieldP fldS
  have hc : Sp.cutIs 58 (f.f0.data.toList ++ 58 :: 32 :: f.f1.data.toList) = true := by unfold Sp.cutIs; rw [List.contains_iff_mem]; simp
  rw [c1, c2, ht, hc, hn, hv, if_pos (by decide)]
 ·intro c hc
  unfold fldS at hc
  rw [List.mem_append, List.mem_cons, List.mem_cons] at hc
  rcases hc with hc | rfl | rfl | hc
  ·exact (n1 c hc).1
  ·decide
  ·decide
  ·exact v1 c hc
theorem right_parts {m t : ByteArray} {st : Int} {rs : ByteArray} {mi : Int} {fs : List S40} {ans : Bool} (h : rightS m t st rs mi fs ans = true) :
  ¬ mi < 0 ∧ ¬ mi > 1 ∧ fs.length ≤ 20 ∧ fs.any badF = false ∧ (if ans = true then m.data.toList = [] ∧ t.data.toList = [] ∧ 100 ≤ st ∧ st ≤ 599 ∧ reasonS rs.data.toList = true else Sp.nameB m.data.toList = true ∧ targetS t.data.toList = true ∧ st = 0 ∧ rs.data.toList = []) := by
 unfold rightS at h
 split at h
 ·cases h
 split at h
 ·cases h
 split at h
 ·cases h
 split at h
 ·cases h
 rename_i g1 g2 g3 g4
 refine ⟨g1, g2, by omega, by simpa using g4, ?_⟩
 cases ans with
 | true =>
  rw [if_pos rfl] at h ⊢
  simp only [Bool.and_eq_true, decide_eq_true_eq] at h
  exact ⟨h.1, h.2.1, h.2.2.1.1, h.2.2.1.2, h.2.2.2⟩
 | false =>
  have hft : ¬ ((false : Bool) = true) := by decide
  rw [if_neg hft] at h ⊢
  simp only [Bool.and_eq_true, decide_eq_true_eq] at h
  exact ⟨h.1, h.2.1, h.2.2.1, h.2.2.2⟩
theorem empty_data {x : ByteArray} (h : x.data.toList = []) : x = ⟨#[]⟩ := H.ba_ext (by rw [h])
theorem first_back (m t : ByteArray) (st : Int) (rs : ByteArray) (mi : Int) (fs : List S40) (ans : Bool) (h : rightS m t st rs mi fs ans = true) :
  firstP ans (lineS ans m.data.toList t.data.toList st rs.data.toList mi) = ((m, t, st, rs, mi), 0) ∧ (∀ c ∈ lineS ans m.data.toList t.data.toList st rs.data.toList mi, c ≠ 13) ∧ (lineS ans m.data.toList t.data.toList st rs.data.toList mi).length ≤ 300 := by
 obtain ⟨g1, g2, g3, g4, g5⟩ := right_parts h
 obtain ⟨v1, v2, v3⟩ := ver_dec mi g1 g2
 unfold firstP lineS
 cases ans with
 | true =>
  rw [if_pos rfl] at g5
  obtain ⟨e1, e2, s1, s2, hr⟩ := g5
  obtain ⟨p1, p2, p3, p4⟩ := st_dec st s1 s2
  obtain ⟨r1, r2⟩ := reason_not hr
  rw [if_pos rfl, words_at _ _ _ (fun x hx => (v2 x hx).2) (fun x hx => (p4 x hx).2)]
  refine ⟨?_, ?_, ?_⟩
  ·show ansP _ _ _ = _
   unfold ansP
   rw [p3, p2, hr, if_pos (by decide), v1, if_pos rfl, p1, if_pos (by simp; omega), mkL_back, empty_data e1, empty_data e2]
  ·intro c hc
   rcases List.mem_append.1 hc with hc | hc
   ·exact (v2 c hc).1
   rcases List.mem_cons.1 hc with rfl | hc
   ·decide
   rcases List.mem_append.1 hc with hc | hc
   ·exact (p4 c hc).1
   rcases List.mem_cons.1 hc with rfl | hc
   ·decide
   ·exact r1 c hc
  ·simp only [List.length_append, List.length_cons] at v3 ⊢
   omega
 | false =>
  have hft : ¬ ((false : Bool) = true) := by decide
  rw [if_neg hft] at g5
  obtain ⟨hn, ht, rfl, hr⟩ := g5
  obtain ⟨n1, n2⟩ := name_not hn
  obtain ⟨t1, t2⟩ := targ_not ht
  rw [if_neg hft, words_at _ _ _ (fun x hx => (n1 x hx).2.1) (fun x hx => (t1 x hx).2)]
  refine ⟨?_, ?_, ?_⟩
  ·show reqP _ _ _ = _
   unfold reqP
   rw [hn, ht, if_pos (by decide), v1, if_pos rfl, mkL_back, mkL_back, empty_data hr]
  ·intro c hc
   rw [List.mem_append, List.mem_cons, List.mem_append, List.mem_cons] at hc
   rcases hc with hc | rfl | hc | rfl | hc
   ·exact (n1 c hc).1
   ·decide
   ·exact (t1 c hc).1
   ·decide
   ·exact (v2 c hc).1
  ·simp only [List.length_append, List.length_cons] at v3 ⊢
   omega
end Go.Proofs.YtapeodbgobkjeaaGreatDoor.P
namespace Go.Proofs.YtapeodbgobkjeaaGreatDoor.P
open Go.RowKit Go.Proofs.YtapeodbgobkjeaaGreatDoorW.PrintWords Go.Proofs.YtapeodbgobkjeaaGreatDoorW.PrintLast Go.Proofs.YtapeodbgobkjeaaGreatDoorW.PrintMore
theorem body_len (m t : ByteArray) (st : Int) (rs : ByteArray) (mi : Int) (fs : List S40) (ans : Bool) (h : rightS m t st rs mi fs ans = true) : (bodyS ans m t st rs mi fs).length ≤ 300 + 2 * fs.length + Lib.lens (fs.map fldS) := by
 have h1 := (first_back m t st rs mi fs ans h).2.2
 unfold bodyS
 rw [join_len, List.length_map]
 show _ + (2 * fs.length + _) ≤ _
 omega
theorem targs_ok : ∀ m ∈ mTargs, targetS m.data.toList = true := by
 have h : (mTargs.all fun m => targetS m.data.toList) = true := by kernel_rfl
 exact List.all_eq_true.1 h
theorem reas_ok : ∀ m ∈ mReas, reasonS m.data.toList = true := by
 have h : (mReas.all fun m => reasonS m.data.toList) = true := by kernel_rfl
 exact List.all_eq_true.1 h
theorem stats_ok : ∀ n ∈ mStats, 100 ≤ n ∧ n ≤ 599 := by
 have h : (mStats.all fun n => decide (100 ≤ n ∧ n ≤ 599)) = true := by kernel_rfl
 intro n hn
 simpa using List.all_eq_true.1 h n hn
theorem mnames_ok : ∀ m ∈ mNames, Sp.nameB m.data.toList = true := by
 have h : (mNames.all fun m => Sp.nameB m.data.toList) = true := by kernel_rfl
 exact List.all_eq_true.1 h
theorem mvals_ok : ∀ m ∈ mVals, Sp.valB m.data.toList = true := by
 have h : (mVals.all fun m => Sp.valB m.data.toList) = true := by kernel_rfl
 exact List.all_eq_true.1 h
theorem mmeths_ok : ∀ m ∈ mMeths, Sp.nameB m.data.toList = true := by
 have h : (mMeths.all fun m => Sp.nameB m.data.toList) = true := by kernel_rfl
 exact List.all_eq_true.1 h
theorem mfs_good {fs : List S40} (h : MFs fs) : fs.any badF = false := by
 rw [List.any_eq_false]
 intro x hx
 unfold badF
 rw [mnames_ok _ (h x hx).1, mvals_ok _ (h x hx).2]
 decide
theorem lens_good : ∀ fs : List S40, fs.any badF = false → Lib.lens (fs.map fldS) ≤ fs.length * 242
 | [], _ => by simp [Lib.lens]
 | f :: fs, h => by
  rw [List.any_cons, Bool.or_eq_false_iff] at h
  have h1 := (fld_parse f h.1).2.2
  have h2 := lens_good fs h.2
  have e : Lib.lens ((f :: fs).map fldS) = (fldS f).length + Lib.lens (fs.map fldS) := by simp [Lib.lens]
  have e2 : (fldS f).length = f.f0.size + f.f1.size + 2 := by
   unfold fldS
   rw [List.length_append, List.length_cons, List.length_cons, size_data, size_data]
   omega
  rw [e, e2, List.length_cons, Nat.succ_mul]
  omega
theorem made_right (l : List Int) (hl : l.length ≤ 281474976710656) (hw : ∀ x ∈ l, (Lit.int .u8 x).wf = true) (ans : Bool) :
  ∃ m t st rs mi fs, (∀ k, 20 ≤ k → lockagelaw06_Made.f k l ans = some (m, t, st, rs, mi, fs)) ∧ rightS m t st rs mi fs ans = true ∧ (bodyS ans m t st rs mi fs).length ≤ 1800 := by
 have fin : ∀ (m t : ByteArray) (st : Int) (rs : ByteArray) (mi : Int) (fs : List S40), fs.length ≤ 6 → MFs fs → rightS m t st rs mi fs ans = true → (bodyS ans m t st rs mi fs).length ≤ 1800 := by
  intro m t st rs mi fs h6 hm hr
  have h1 := body_len m t st rs mi fs ans hr
  have h2 := lens_good fs (mfs_good hm)
  omega
 cases ans with
 | false =>
  obtain ⟨m, t, mi, fs, h1, hm, ht, hi, h6, hf⟩ := Made_false l hl hw
  have hr : rightS m t 0 ⟨#[]⟩ mi fs false = true := by
   unfold rightS
   rw [if_neg (by omega), if_neg (by omega), if_neg (by omega), if_neg (by rw [mfs_good hf]; decide), if_neg (by decide), mmeths_ok m hm, targs_ok t ht]
   rfl
  exact ⟨m, t, 0, ⟨#[]⟩, mi, fs, h1, hr, fin _ _ _ _ _ _ h6 hf hr⟩
 | true =>
  obtain ⟨st, s, mi, fs, h1, hs, hq, hi, h6, hf⟩ := Made_true l hl hw
  have hst := stats_ok st hs
  have hr : rightS ⟨#[]⟩ ⟨#[]⟩ st s mi fs true = true := by
   unfold rightS
   rw [if_neg (by omega), if_neg (by omega), if_neg (by omega), if_neg (by rw [mfs_good hf]; decide), if_pos rfl, reas_ok s hq, decide_eq_true hst.1, decide_eq_true hst.2]
   rfl
  exact ⟨⟨#[]⟩, ⟨#[]⟩, st, s, mi, fs, h1, hr, fin _ _ _ _ _ _ h6 hf hr⟩
end Go.Proofs.YtapeodbgobkjeaaGreatDoor.P
namespace Go.Proofs.YtapeodbgobkjeaaGreatDoor.P
open Go.RowKit Go.Proofs.YtapeodbgobkjeaaGreatDoorW.PrintWords Go.Proofs.YtapeodbgobkjeaaGreatDoorW.PrintLast Go.Proofs.YtapeodbgobkjeaaGreatDoorW.PrintMore
theorem cut4 (b : List UInt8) (hb : b.length ≤ 100000) : wrap64 (((mkL (b ++ [13, 10, 13, 10])).size : Int) - 4) = ((b.length : Nat) : Int) ∧ (mkL (b ++ [13, 10, 13, 10])).size = b.length + 4 := by
 have : (mkL (b ++ [13, 10, 13, 10])).size = b.length + 4 := by rw [mkL_size, List.length_append]; rfl
 refine ⟨?_, this⟩
 rw [this]
 unfold wrap64
 omega
end Go.Proofs.YtapeodbgobkjeaaGreatDoor.P
