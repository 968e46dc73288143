/- Several parts together: The reference's Right, Text and Print of heads; same and told answer true; plain Lean, no program; How the body of a right head ends: program and reference say the same; plain Lean, no program. -/
import Derived.Test.YtapeodbgobkjeaaGreatDoorP8
import Derived.Test.YtapeodbgobkjeaaGreatDoorHZM
import Derived.Test.YtapeodbgobkjeaaGreatDoorPx0
import Derived.Test.YtapeodbgobkjeaaGreatDoorPx17
import Derived.Test.YtapeodbgobkjeaaGreatDoorPxC
import Derived.Test.YtapeodbgobkjeaaGreatDoorPx20
import Derived.Test.YtapeodbgobkjeaaGreatDoorP7
import Derived.Test.YtapeodbgobkjeaaGreatDoorPxB
import Derived.Test.YtapeodbgobkjeaaGreatDoorPx9
import Derived.Test.YtapeodbgobkjeaaGreatDoorPx10
import Derived.Test.YtapeodbgobkjeaaGreatDoorMZ
set_option linter.unusedVariables false
set_option linter.unusedSimpArgs false
namespace Go.Proofs.YtapeodbgobkjeaaGreatDoor.P
open Go.RowKit Go.Proofs.YtapeodbgobkjeaaGreatDoorW.PrintWords Go.Proofs.YtapeodbgobkjeaaGreatDoorW.PrintLast Go.Proofs.YtapeodbgobkjeaaGreatDoorW.PrintMore
theorem RRight_ev (B : Nat) (hB : B ≤ 1000000000) (m t : ByteArray) (st : Int) (rs : ByteArray) (mi : Int) (fs : List S40) (ans : Bool) (hm : m.size ≤ B) (ht : t.size ≤ B) (hr : rs.size ≤ B) (hl : fs.length ≤ 1000000000) (hs : ∀ f ∈ fs, f.f0.size ≤ B ∧ f.f1.size ≤ B) (k : Nat) (hk : fs.length + 4 * B + 200 ≤ k) :
  lockageref06_Right.f k m t st rs mi fs ans = some (rightS m t st rs mi fs ans) := by
 obtain ⟨k, rfl⟩ : ∃ j, k = j + 1 := ⟨k - 1, by omega⟩
 have bad : lockageref06_Right.j0 (k + 1) ans true m t st rs mi fs = some false := by rw [lockageref06_Right.j0, if_pos rfl]
 unfold lockageref06_Right.f rightS
 by_cases h1 : mi < 0
 ·rw [if_pos h1, if_pos h1]; exact bad
 rw [if_neg h1, if_neg h1]
 by_cases h2 : mi > 1
 ·rw [if_pos h2, if_pos h2]; exact bad
 rw [if_neg h2, if_neg h2, Rfields_ev B (by omega) fs (by omega) hs _ (by omega), Option.bind_some]
 by_cases h3 : fs.length > 20
 ·rw [if_pos h3, decide_eq_false (by omega), Bool.and_false]; exact bad
 rw [if_neg h3, decide_eq_true (by omega), Bool.and_true]
 by_cases h4 : fs.any badF = true
 ·rw [if_pos h4, h4]; exact bad
 have h4' : fs.any badF = false := by simpa using h4
 rw [if_neg h4, h4', lockageref06_Right.j0, if_neg (by decide)]
 cases ans with
 | true =>
  rw [if_pos rfl, if_pos rfl, toList_data, toList_data]
  by_cases h5 : m.data.toList = []
  ·rw [if_pos h5, decide_eq_true h5, Bool.true_and]
   by_cases h6 : t.data.toList = []
   ·rw [if_pos h6, decide_eq_true h6, Bool.true_and]
    by_cases h7 : st ≥ 100
    ·rw [if_pos h7, decide_eq_true (show 100 ≤ st from h7), Bool.true_and]
     by_cases h8 : st ≤ 599
     ·rw [if_pos h8, decide_eq_true h8, Bool.true_and, Rreason_ev rs (by omega) k (by omega), Option.bind_some]
     ·rw [if_neg h8, decide_eq_false h8, Bool.false_and]
    ·rw [if_neg h7, decide_eq_false (show ¬ 100 ≤ st from h7), Bool.false_and, Bool.false_and]
   ·rw [if_neg h6, decide_eq_false h6, Bool.false_and]
  ·rw [if_neg h5, decide_eq_false h5, Bool.false_and]
 | false =>
  have hft : ¬ ((false : Bool) = true) := by decide
  rw [if_neg hft, if_neg hft, RefName_ev m (by omega) k (by omega), Option.bind_some]
  cases Sp.nameB m.data.toList with
  | false => rw [if_neg hft, Bool.false_and]
  | true =>
   rw [if_pos rfl, Rtarget_ev t (by omega) k (by omega), Option.bind_some, Bool.true_and]
   cases targetS t.data.toList with
   | false => rw [if_neg hft, Bool.false_and]
   | true =>
    have e6 : (rs.data.toList == []) = decide (rs.data.toList = []) := by cases rs.data.toList <;> rfl
    rw [if_pos rfl, Bool.true_and, toList_data, e6]
    by_cases h5 : st = 0
    ·rw [if_pos h5, decide_eq_true h5, Bool.true_and]
    ·rw [if_neg h5, decide_eq_false h5, Bool.false_and]
theorem mkL_app (a b : List UInt8) : mkL a ++ mkL b = mkL (a ++ b) := H.ba_ext (by rw [ByteArray.data_append, Array.toList_append]; rfl)
theorem join_last (x : List UInt8) (r : List (List UInt8)) (y : List UInt8) : Lib.join (x :: r ++ [y]) [13, 10] = Lib.join (x :: r) [13, 10] ++ 13 :: 10 :: y := by
 rw [List.cons_append, Lib.join_cons, Lib.join_cons]
 simp [Lib.joinTail]
theorem RText_l0 (fs : List S40) (hs : ∀ f ∈ fs, f.f0.size ≤ 1000000 ∧ f.f1.size ≤ 1000000) (hl : fs.length ≤ 1000000) (x : List UInt8) (hx : x.length ≤ 10000000) (m t : ByteArray) (st : Int) (rs : ByteArray) (mi : Int) (d : Nat) :
  ∀ (i k : Nat), fs.length - i = d → i ≤ fs.length → d + 1 ≤ k →
   lockageref06_Text.l0 k (mkL (Lib.join (x :: (fs.take i).map fldS) [13, 10] ++ [13, 10])) i m t st rs mi fs = some (mkL (Lib.join (x :: fs.map fldS) [13, 10] ++ [13, 10, 13, 10])) := by
 have hlen : ∀ i, i ≤ fs.length → (Lib.join (x :: (fs.take i).map fldS) [13, 10]).length ≤ 10000000 + 2 * fs.length + fs.length * 2000002 := by
  intro i hi
  have h1 := lens_fs 1000000 (fs.take i) (fun f hf => hs f (List.mem_of_mem_take hf))
  have h2 : (fs.take i).length ≤ fs.length := by rw [List.length_take]; omega
  have h3 : (fs.take i).length * (2 * 1000000 + 2) ≤ fs.length * (2 * 1000000 + 2) := Nat.mul_le_mul_right _ h2
  rw [join_len, List.length_map]
  show x.length + (2 * (fs.take i).length + _) ≤ _
  omega
 have hbig : fs.length * 2000002 ≤ 1000000 * 2000002 := Nat.mul_le_mul_right _ hl
 induction d with
 | zero =>
  intro i k hd hi hk
  obtain ⟨k, rfl⟩ : ∃ j, k = j + 1 := ⟨k - 1, by omega⟩
  have h1 := hlen i hi
  have e : (mkL (Lib.join (x :: (fs.take i).map fldS) [13, 10] ++ [13, 10])).size ≤ 3000000000000000 := by rw [mkL_size, List.length_append]; show _ + 2 ≤ _; omega
  rw [lockageref06_Text.l0, if_neg (by omega), if_pos (by omega)]
  have : mkL [13, 10] = (⟨#[13, 10]⟩ : ByteArray) := rfl
  rw [← this, mkL_app, List.append_assoc, List.take_of_length_le (by omega)]
  rfl
 | succ d ih =>
  intro i k hd hi hk
  obtain ⟨k, rfl⟩ : ∃ j, k = j + 1 := ⟨k - 1, by omega⟩
  have hlt : i < fs.length := by omega
  have hrd : rd_T40 fs (i : Int) = fs[i] := by simp [rd_T40, hlt]
  have h1 := hs fs[i] (List.getElem_mem hlt)
  have h2 := hlen i hi
  obtain ⟨X, hX⟩ : ∃ X, X = mkL (Lib.join (x :: (fs.take i).map fldS) [13, 10] ++ [13, 10]) := ⟨_, rfl⟩
  have e : X.size ≤ 3000000000000000 := by rw [hX, mkL_size, List.length_append]; show _ + 2 ≤ _; omega
  have s1 : (X ++ fs[i].f0).size = X.size + fs[i].f0.size := ByteArray.size_append
  have s2 : ((X ++ fs[i].f0) ++ (⟨#[58, 32]⟩ : ByteArray)).size = X.size + fs[i].f0.size + 2 := by rw [ByteArray.size_append, s1]; rfl
  have s3 : (((X ++ fs[i].f0) ++ (⟨#[58, 32]⟩ : ByteArray)) ++ fs[i].f1).size = X.size + fs[i].f0.size + 2 + fs[i].f1.size := by rw [ByteArray.size_append, s2]
  have eX : ((((X ++ fs[i].f0) ++ (⟨#[58, 32]⟩ : ByteArray)) ++ fs[i].f1) ++ (⟨#[13, 10]⟩ : ByteArray)) = mkL (Lib.join (x :: (fs.take (i + 1)).map fldS) [13, 10] ++ [13, 10]) := by
   have et : x :: (fs.take (i + 1)).map fldS = x :: (fs.take i).map fldS ++ [fldS fs[i]] := by
    rw [List.take_succ_eq_append_getElem hlt, List.map_append]
    rfl
   rw [et, join_last, hX]
   refine H.ba_ext ?_
   simp only [ByteArray.data_append, Array.toList_append, mkL_data, fldS]
   simp
  rw [← hX, lockageref06_Text.l0, if_pos (by omega), if_pos (by omega), hrd, if_pos (by omega), if_pos (by omega), if_pos (by omega), if_pos (by omega), eX, wrap_nx i (by omega)]
  exact ih (i + 1) k (by omega) (by omega) (by omega)
theorem RText_ev (m t : ByteArray) (st : Int) (rs : ByteArray) (mi : Int) (fs : List S40) (ans : Bool) (hm : m.size ≤ 1000000) (ht : t.size ≤ 1000000) (hr : rs.size ≤ 1000000) (hl : fs.length ≤ 1000000) (hs : ∀ f ∈ fs, f.f0.size ≤ 1000000 ∧ f.f1.size ≤ 1000000) (hmi : 0 ≤ mi ∧ mi ≤ 1) (hst : 0 ≤ st ∧ st ≤ 600) (k : Nat) (hk : fs.length + 200 ≤ k) :
  lockageref06_Text.f k m t st rs mi fs ans = some (mkL (bodyS ans m t st rs mi fs ++ [13, 10, 13, 10])) := by
 obtain ⟨k, rfl⟩ : ∃ j, k = j + 1 := ⟨k - 1, by omega⟩
 have d1 := decL_small mi (by omega) (by omega)
 have d2 := decL_small st (by omega) (by omega)
 have z1 : (H.text10 mi).size ≤ 3 := by rw [← size_data]; exact d1
 have z2 : (H.text10 st).size ≤ 3 := by rw [← size_data]; exact d2
 obtain ⟨V, hV⟩ : ∃ V, V = (⟨#[72, 84, 84, 80, 47, 49, 46]⟩ : ByteArray) ++ H.text10 mi := ⟨_, rfl⟩
 have sV : V.size ≤ 10 := by rw [hV, ByteArray.size_append]; show 7 + _ ≤ _; omega
 have eV : V = mkL (http1 ++ decL mi) := by rw [hV]; exact H.ba_ext (by rw [ByteArray.data_append, Array.toList_append, mkL_data]; rfl)
 have s1 : (m ++ (⟨#[32]⟩ : ByteArray)).size = m.size + 1 := by rw [ByteArray.size_append]; rfl
 have s2 : ((m ++ (⟨#[32]⟩ : ByteArray)) ++ t).size = m.size + 1 + t.size := by rw [ByteArray.size_append, s1]
 have s3 : (((m ++ (⟨#[32]⟩ : ByteArray)) ++ t) ++ (⟨#[32]⟩ : ByteArray)).size = m.size + 1 + t.size + 1 := by rw [ByteArray.size_append, s2]; rfl
 have s4 : ((((m ++ (⟨#[32]⟩ : ByteArray)) ++ t) ++ (⟨#[32]⟩ : ByteArray)) ++ V).size = m.size + 1 + t.size + 1 + V.size := by rw [ByteArray.size_append, s3]
 have fin : ∀ (x : List UInt8), x.length ≤ 10000000 → lockageref06_Text.j0 (k + 1) (mkL (x ++ [13, 10])) m t st rs mi fs = some (mkL (Lib.join (x :: fs.map fldS) [13, 10] ++ [13, 10, 13, 10])) := by
  intro x hx
  rw [lockageref06_Text.j0]
  have := RText_l0 fs hs hl x hx m t st rs mi fs.length 0 k (Nat.sub_zero _) (Nat.zero_le _) (by omega)
  have e0 : Lib.join (x :: (fs.take 0).map fldS) [13, 10] = x := Lib.join_one _ _
  rw [e0] at this
  exact this
 unfold lockageref06_Text.f
 rw [(both_text mi (by omega) (by omega)).2.2 _ (by omega), Option.bind_some, if_pos (by omega), ← hV, if_pos (by omega), if_pos (by omega), if_pos (by omega), if_pos (by omega), if_pos (by omega)]
 unfold bodyS lineS
 cases ans with
 | true =>
  have t1 : (V ++ (⟨#[32]⟩ : ByteArray)).size = V.size + 1 := by rw [ByteArray.size_append]; rfl
  have t2 : ((V ++ (⟨#[32]⟩ : ByteArray)) ++ H.text10 st).size = V.size + 1 + (H.text10 st).size := by rw [ByteArray.size_append, t1]
  have t3 : (((V ++ (⟨#[32]⟩ : ByteArray)) ++ H.text10 st) ++ (⟨#[32]⟩ : ByteArray)).size = V.size + 1 + (H.text10 st).size + 1 := by rw [ByteArray.size_append, t2]; rfl
  have t4 : ((((V ++ (⟨#[32]⟩ : ByteArray)) ++ H.text10 st) ++ (⟨#[32]⟩ : ByteArray)) ++ rs).size = V.size + 1 + (H.text10 st).size + 1 + rs.size := by rw [ByteArray.size_append, t3]
  rw [if_pos rfl, if_pos rfl, if_pos (by omega), (both_text st (by omega) (by omega)).2.2 _ (by omega), Option.bind_some, if_pos (by omega), if_pos (by omega), if_pos (by omega), if_pos (by omega)]
  have := fin ((http1 ++ decL mi) ++ 32 :: (decL st ++ 32 :: rs.data.toList)) (by
   have := size_data rs
   have : (http1 ++ decL mi).length ≤ 10 := by rw [List.length_append]; show 7 + _ ≤ _; omega
   simp only [List.length_append, List.length_cons] at *
   omega)
  rw [← this]
  congr 1
  rw [eV]
  refine H.ba_ext ?_
  simp only [ByteArray.data_append, Array.toList_append, mkL_data]
  simp [decL]
 | false =>
  have hft : ¬ ((false : Bool) = true) := by decide
  rw [if_neg hft, if_neg hft]
  have := fin (m.data.toList ++ 32 :: (t.data.toList ++ 32 :: (http1 ++ decL mi))) (by
   have := size_data m
   have := size_data t
   have : (http1 ++ decL mi).length ≤ 10 := by rw [List.length_append]; show 7 + _ ≤ _; omega
   simp only [List.length_append, List.length_cons] at *
   omega)
  rw [← this]
  congr 1
  rw [eV]
  refine H.ba_ext ?_
  simp only [ByteArray.data_append, Array.toList_append, mkL_data]
  simp
theorem RPrint_ev (m t : ByteArray) (st : Int) (rs : ByteArray) (mi : Int) (fs : List S40) (ans : Bool) (hm : m.size ≤ 100000) (ht : t.size ≤ 100000) (hr : rs.size ≤ 100000) (hl : fs.length ≤ 100000) (hs : ∀ f ∈ fs, f.f0.size ≤ 100000 ∧ f.f1.size ≤ 100000) (k : Nat) (hk : 700000 ≤ k) :
  lockageref06_Print.f k m t st rs mi fs ans = some (if rightS m t st rs mi fs ans = true then (if (bodyS ans m t st rs mi fs).length > 2000 then (⟨#[]⟩, 2) else (mkL (bodyS ans m t st rs mi fs ++ [13, 10, 13, 10]), 0)) else (⟨#[]⟩, 1)) := by
 unfold lockageref06_Print.f
 rw [RRight_ev 100000 (by decide) m t st rs mi fs ans hm ht hr (by omega) hs k (by omega), Option.bind_some]
 cases hR : rightS m t st rs mi fs ans with
 | false => rw [if_neg (by decide), if_neg (by decide)]
 | true =>
  obtain ⟨g1, g2, g3, g4, g5⟩ := right_parts hR
  have hst : 0 ≤ st ∧ st ≤ 600 := by
   cases ans with
   | true => rw [if_pos rfl] at g5; omega
   | false =>
    have hft : ¬ ((false : Bool) = true) := by decide
    rw [if_neg hft] at g5
    omega
  have hb := body_len m t st rs mi fs ans hR
  have hln := lens_good fs g4
  have hmul : fs.length * 242 ≤ 20 * 242 := Nat.mul_le_mul_right _ g3
  obtain ⟨w1, w2⟩ := cut4 (bodyS ans m t st rs mi fs) (by omega)
  rw [if_pos rfl, if_pos rfl, RText_ev m t st rs mi fs ans (by omega) (by omega) (by omega) (by omega) (fun f hf => by have := hs f hf; omega) (by omega) hst k (by omega), Option.bind_some, w1]
  by_cases h : (bodyS ans m t st rs mi fs).length > 2000
  ·rw [if_pos (by omega), if_pos h]
  ·rw [if_neg (by omega), if_neg h]
end Go.Proofs.YtapeodbgobkjeaaGreatDoor.P
namespace Go.Proofs.YtapeodbgobkjeaaGreatDoor.P
open Go.RowKit Go.Proofs.YtapeodbgobkjeaaGreatDoorW.PrintWords Go.Proofs.YtapeodbgobkjeaaGreatDoorW.PrintLast Go.Proofs.YtapeodbgobkjeaaGreatDoorW.PrintMore
theorem right_small {m t : ByteArray} {st : Int} {rs : ByteArray} {mi : Int} {fs : List S40} {ans : Bool} (h : rightS m t st rs mi fs ans = true) :
  m.size ≤ 1000 ∧ t.size ≤ 1000 ∧ rs.size ≤ 1000 ∧ fs.length ≤ 20 ∧ (∀ f ∈ fs, f.f0.size ≤ 1000 ∧ f.f1.size ≤ 1000) := by
 obtain ⟨_, _, g3, g4, g5⟩ := right_parts h
 have hf : ∀ f ∈ fs, f.f0.size ≤ 1000 ∧ f.f1.size ≤ 1000 := fun f hf => by
  have hb : badF f = false := by
   have := List.any_eq_false.1 g4 f hf
   simpa using this
  have := (fld_parse f hb).2.2
  omega
 cases ans with
 | true =>
  rw [if_pos rfl] at g5
  have h1 := (reason_not g5.2.2.2.2).2
  rw [size_data] at h1
  rw [empty_data g5.1, empty_data g5.2.1]
  exact ⟨by decide, by decide, by omega, by omega, hf⟩
 | false =>
  have hft : ¬ ((false : Bool) = true) := by decide
  rw [if_neg hft] at g5
  have h1 := (name_not g5.1).2
  have h2 := (targ_not g5.2.1).2
  rw [size_data] at h1 h2
  rw [empty_data g5.2.2.2]
  exact ⟨by omega, by omega, by decide, by omega, hf⟩
end Go.Proofs.YtapeodbgobkjeaaGreatDoor.P
