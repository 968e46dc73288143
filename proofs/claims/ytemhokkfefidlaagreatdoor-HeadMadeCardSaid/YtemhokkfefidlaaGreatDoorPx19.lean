/- Printed by a program of the session out of the translation: plain Lean functions, each with the contract that the Go function computes it. -/
import Derived.Test.YtemhokkfefidlaaGreatDoorHZ
import Derived.Test.YtemhokkfefidlaaGreatDoorPx0
import Derived.Test.YtemhokkfefidlaaGreatDoorPx7
import Derived.Test.YtemhokkfefidlaaGreatDoorPx14
import Derived.Test.YtemhokkfefidlaaGreatDoorPx16
import Derived.Test.YtemhokkfefidlaaGreatDoorPx18
import Derived.Test.YtemhokkfefidlaaGreatDoorHK
import Derived.Test.YtemhokkfefidlaaGreatDoorHZB
namespace Go.Proofs.YtemhokkfefidlaaGreatDoor.P
open Go.RowKit Go.Proofs.YtemhokkfefidlaaGreatDoorW.PrintWords Go.Proofs.YtemhokkfefidlaaGreatDoorW.PrintLast Go.Proofs.YtemhokkfefidlaaGreatDoorW.PrintMore
attribute [local go_sem] max2_int min2_int max_two min_two max_three min_three max_four min_four   -- for this text's walks alone
set_option linter.unusedVariables false
set_option linter.unusedSimpArgs false

def lockagelaw06_HeadMade.j0 : Nat → ByteArray → ByteArray → ByteArray → ByteArray → Int → ByteArray → Int → List (S37) → Option (Bool)
 | 0, _, _, _, _, _, _, _, _ => none
 | k + 1, x12, x14, x427000, x427001, x427002, x427003, x427004, x427005 => (lockagelaw06_awake.f k).bind fun t435 => (if t435 = true then ((lockagelaw06_told.f k x427000 x427001 x427002 x427003 x427004 x427005).bind fun t436 => (if t436 = true then ((lockagelaw06_same.f k x12).bind fun t437 => (if t437 = true then ((lockagelaw06_same.f k x14).bind fun t438 => (some t438)) else (none))) else (none))) else (none))
def lockagelaw06_HeadMade.f (k : Nat) (l0 : List Int) (a1 : Bool) (a2 : Int) (a3 : Int) (a4 : Int) : Option (Bool) := (lockagelaw06_Made.f k l0 a1).bind fun bt418 => ((lockageref06_Text.f k bt418.1 bt418.2.1 bt418.2.2.1 bt418.2.2.2.1 bt418.2.2.2.2.1 bt418.2.2.2.2.2 a1).bind fun t427 => (if 0 ≤ (wrap64 ((t427.size : Int) - 4)) then (if (wrap64 ((t427.size : Int) - 4)) ≤ (t427.size : Int) then (if ((t427.extract 0 ((wrap64 ((t427.size : Int) - 4)) : Int).toNat).size : Int) = 0 then (none) else (if 0 ≤ (Int.tmod (wrap64 (a2)) ((t427.extract 0 ((wrap64 ((t427.size : Int) - 4)) : Int).toNat).size : Int)) then (if (Int.tmod (wrap64 (a2)) ((t427.extract 0 ((wrap64 ((t427.size : Int) - 4)) : Int).toNat).size : Int)) ≤ ((t427.extract 0 ((wrap64 ((t427.size : Int) - 4)) : Int).toNat).size : Int) then ((some (([a3] : List Int) : List Int)).bind fun y428 => (if ((t427.extract 0 ((wrap64 ((t427.size : Int) - 4)) : Int).toNat).extract 0 ((Int.tmod (wrap64 (a2)) ((t427.extract 0 ((wrap64 ((t427.size : Int) - 4)) : Int).toNat).size : Int)) : Int).toNat).size + (strOfNums y428).size ≤ 9223372036854775807 then (if 0 ≤ (wrap64 ((Int.tmod (wrap64 (a2)) ((t427.extract 0 ((wrap64 ((t427.size : Int) - 4)) : Int).toNat).size : Int)) + 1)) then (if (wrap64 ((Int.tmod (wrap64 (a2)) ((t427.extract 0 ((wrap64 ((t427.size : Int) - 4)) : Int).toNat).size : Int)) + 1)) ≤ ((t427.extract 0 ((wrap64 ((t427.size : Int) - 4)) : Int).toNat).size : Int) then (if (((t427.extract 0 ((wrap64 ((t427.size : Int) - 4)) : Int).toNat).extract 0 ((Int.tmod (wrap64 (a2)) ((t427.extract 0 ((wrap64 ((t427.size : Int) - 4)) : Int).toNat).size : Int)) : Int).toNat) ++ (strOfNums y428)).size + ((t427.extract 0 ((wrap64 ((t427.size : Int) - 4)) : Int).toNat).extract ((wrap64 ((Int.tmod (wrap64 (a2)) ((t427.extract 0 ((wrap64 ((t427.size : Int) - 4)) : Int).toNat).size : Int)) + 1)) : Int).toNat (t427.extract 0 ((wrap64 ((t427.size : Int) - 4)) : Int).toNat).size).size ≤ 9223372036854775807 then (if (Int.tmod a4 4) = 1 then (if ((t427.extract 0 ((wrap64 ((t427.size : Int) - 4)) : Int).toNat).extract 0 ((Int.tmod (wrap64 (a2)) ((t427.extract 0 ((wrap64 ((t427.size : Int) - 4)) : Int).toNat).size : Int)) : Int).toNat).size + ((t427.extract 0 ((wrap64 ((t427.size : Int) - 4)) : Int).toNat).extract ((wrap64 ((Int.tmod (wrap64 (a2)) ((t427.extract 0 ((wrap64 ((t427.size : Int) - 4)) : Int).toNat).size : Int)) + 1)) : Int).toNat (t427.extract 0 ((wrap64 ((t427.size : Int) - 4)) : Int).toNat).size).size ≤ 9223372036854775807 then (lockagelaw06_HeadMade.j0 k (t427.extract 0 ((wrap64 ((t427.size : Int) - 4)) : Int).toNat) (((t427.extract 0 ((wrap64 ((t427.size : Int) - 4)) : Int).toNat).extract 0 ((Int.tmod (wrap64 (a2)) ((t427.extract 0 ((wrap64 ((t427.size : Int) - 4)) : Int).toNat).size : Int)) : Int).toNat) ++ ((t427.extract 0 ((wrap64 ((t427.size : Int) - 4)) : Int).toNat).extract ((wrap64 ((Int.tmod (wrap64 (a2)) ((t427.extract 0 ((wrap64 ((t427.size : Int) - 4)) : Int).toNat).size : Int)) + 1)) : Int).toNat (t427.extract 0 ((wrap64 ((t427.size : Int) - 4)) : Int).toNat).size)) bt418.1 bt418.2.1 bt418.2.2.1 bt418.2.2.2.1 bt418.2.2.2.2.1 bt418.2.2.2.2.2) else (none)) else (if (Int.tmod a4 4) = 2 then (lockagelaw06_HeadMade.j0 k (t427.extract 0 ((wrap64 ((t427.size : Int) - 4)) : Int).toNat) ((t427.extract 0 ((wrap64 ((t427.size : Int) - 4)) : Int).toNat).extract 0 ((Int.tmod (wrap64 (a2)) ((t427.extract 0 ((wrap64 ((t427.size : Int) - 4)) : Int).toNat).size : Int)) : Int).toNat) bt418.1 bt418.2.1 bt418.2.2.1 bt418.2.2.2.1 bt418.2.2.2.2.1 bt418.2.2.2.2.2) else (if (Int.tmod a4 4) = 3 then ((some (([(⟨#[32]⟩ : ByteArray), (⟨#[58]⟩ : ByteArray), (⟨#[13, 10]⟩ : ByteArray), (⟨#[13]⟩ : ByteArray), (⟨#[10]⟩ : ByteArray), (⟨#[49]⟩ : ByteArray), (⟨#[44]⟩ : ByteArray), (⟨#[9]⟩ : ByteArray)] : List ByteArray) : List ByteArray)).bind fun y431 => (if 0 ≤ (Int.tmod (wrap64 (a3)) 8) then (if (Int.tmod (wrap64 (a3)) 8) < (y431.length : Int) then (if ((t427.extract 0 ((wrap64 ((t427.size : Int) - 4)) : Int).toNat).extract 0 ((Int.tmod (wrap64 (a2)) ((t427.extract 0 ((wrap64 ((t427.size : Int) - 4)) : Int).toNat).size : Int)) : Int).toNat).size + (rdOf ByteArray.empty y431 (Int.tmod (wrap64 (a3)) 8)).size ≤ 9223372036854775807 then (if (((t427.extract 0 ((wrap64 ((t427.size : Int) - 4)) : Int).toNat).extract 0 ((Int.tmod (wrap64 (a2)) ((t427.extract 0 ((wrap64 ((t427.size : Int) - 4)) : Int).toNat).size : Int)) : Int).toNat) ++ (rdOf ByteArray.empty y431 (Int.tmod (wrap64 (a3)) 8))).size + ((t427.extract 0 ((wrap64 ((t427.size : Int) - 4)) : Int).toNat).extract ((Int.tmod (wrap64 (a2)) ((t427.extract 0 ((wrap64 ((t427.size : Int) - 4)) : Int).toNat).size : Int)) : Int).toNat (t427.extract 0 ((wrap64 ((t427.size : Int) - 4)) : Int).toNat).size).size ≤ 9223372036854775807 then (lockagelaw06_HeadMade.j0 k (t427.extract 0 ((wrap64 ((t427.size : Int) - 4)) : Int).toNat) ((((t427.extract 0 ((wrap64 ((t427.size : Int) - 4)) : Int).toNat).extract 0 ((Int.tmod (wrap64 (a2)) ((t427.extract 0 ((wrap64 ((t427.size : Int) - 4)) : Int).toNat).size : Int)) : Int).toNat) ++ (rdOf ByteArray.empty y431 (Int.tmod (wrap64 (a3)) 8))) ++ ((t427.extract 0 ((wrap64 ((t427.size : Int) - 4)) : Int).toNat).extract ((Int.tmod (wrap64 (a2)) ((t427.extract 0 ((wrap64 ((t427.size : Int) - 4)) : Int).toNat).size : Int)) : Int).toNat (t427.extract 0 ((wrap64 ((t427.size : Int) - 4)) : Int).toNat).size)) bt418.1 bt418.2.1 bt418.2.2.1 bt418.2.2.2.1 bt418.2.2.2.2.1 bt418.2.2.2.2.2) else (none)) else (none)) else (none)) else (none))) else (lockagelaw06_HeadMade.j0 k (t427.extract 0 ((wrap64 ((t427.size : Int) - 4)) : Int).toNat) ((((t427.extract 0 ((wrap64 ((t427.size : Int) - 4)) : Int).toNat).extract 0 ((Int.tmod (wrap64 (a2)) ((t427.extract 0 ((wrap64 ((t427.size : Int) - 4)) : Int).toNat).size : Int)) : Int).toNat) ++ (strOfNums y428)) ++ ((t427.extract 0 ((wrap64 ((t427.size : Int) - 4)) : Int).toNat).extract ((wrap64 ((Int.tmod (wrap64 (a2)) ((t427.extract 0 ((wrap64 ((t427.size : Int) - 4)) : Int).toNat).size : Int)) + 1)) : Int).toNat (t427.extract 0 ((wrap64 ((t427.size : Int) - 4)) : Int).toNat).size)) bt418.1 bt418.2.1 bt418.2.2.1 bt418.2.2.2.1 bt418.2.2.2.2.1 bt418.2.2.2.2.2)))) else (none)) else (none)) else (none)) else (none))) else (none)) else (none))) else (none)) else (none)))
theorem lockagelaw06_HeadMade.mono_l : ∀ k, (∀ y0 y1 y2 y3 y4 y5 y6 y7, LeO (lockagelaw06_HeadMade.j0 k y0 y1 y2 y3 y4 y5 y6 y7) (lockagelaw06_HeadMade.j0 (k + 1) y0 y1 y2 y3 y4 y5 y6 y7))
 | 0 => fun _ _ _ _ _ _ _ _ r h => by simp [lockagelaw06_HeadMade.j0] at h
 | k + 1 => by
  have ih0 := lockagelaw06_HeadMade.mono_l k
  ·intro y0 y1 y2 y3 y4 y5 y6 y7
   unfold lockagelaw06_HeadMade.j0
   repeat' first
   | (with_reducible exact ih0 _ _ _ _ _ _ _ _)
   | (with_reducible exact lockagelaw06_Made.mono _ _ _)
   | (with_reducible exact lockagelaw06_awake.mono _)
   | (with_reducible exact lockagelaw06_same.mono _ _)
   | (with_reducible exact lockagelaw06_told.mono _ _ _ _ _ _ _)
   | (with_reducible exact lockageref06_Text.mono _ _ _ _ _ _ _ _)
   | (with_reducible exact LeO.refl _)
   | (with_reducible exact LeO.none _)
   | (with_reducible refine LeO.ite ?_ ?_)
   | (with_reducible refine LeO.bind ?_ (fun _ => ?_))
   | exact ih0 _ _ _ _ _ _ _ _
   | exact lockagelaw06_Made.mono _ _ _
   | exact lockagelaw06_awake.mono _
   | exact lockagelaw06_same.mono _ _
   | exact lockagelaw06_told.mono _ _ _ _ _ _ _
   | exact lockageref06_Text.mono _ _ _ _ _ _ _ _
   | exact LeO.none _
   | refine LeO.ite ?_ ?_
   | refine LeO.bind ?_ (fun _ => ?_)
theorem lockagelaw06_HeadMade.mono : ∀ a0 a1 a2 a3 a4 k, LeO (lockagelaw06_HeadMade.f k a0 a1 a2 a3 a4) (lockagelaw06_HeadMade.f (k + 1) a0 a1 a2 a3 a4) := by
 intro a0 a1 a2 a3 a4 k
 have ih0 := lockagelaw06_HeadMade.mono_l k
 unfold lockagelaw06_HeadMade.f
 repeat' first
   | (with_reducible exact ih0 _ _ _ _ _ _ _ _)
   | (with_reducible exact lockagelaw06_Made.mono _ _ _)
   | (with_reducible exact lockagelaw06_awake.mono _)
   | (with_reducible exact lockagelaw06_same.mono _ _)
   | (with_reducible exact lockagelaw06_told.mono _ _ _ _ _ _ _)
   | (with_reducible exact lockageref06_Text.mono _ _ _ _ _ _ _ _)
   | (with_reducible exact LeO.refl _)
   | (with_reducible exact LeO.none _)
   | (with_reducible refine LeO.ite ?_ ?_)
   | (with_reducible refine LeO.bind ?_ (fun _ => ?_))
   | exact ih0 _ _ _ _ _ _ _ _
   | exact lockagelaw06_Made.mono _ _ _
   | exact lockagelaw06_awake.mono _
   | exact lockagelaw06_same.mono _ _
   | exact lockagelaw06_told.mono _ _ _ _ _ _ _
   | exact lockageref06_Text.mono _ _ _ _ _ _ _ _
   | exact LeO.none _
   | refine LeO.ite ?_ ?_
   | refine LeO.bind ?_ (fun _ => ?_)
def lockagelaw06_HeadMade.T5 : Bool × List (List Nat × List Nat) := (true, [([], []), ([], []), ([0, 1], [0, 1]), ([], []), ([3], [3]), ([4], [4]), ([2, 5], [2, 5]), ([], []), ([], []), ([8], [8]), ([7, 9], [7, 9]), ([6, 10], [6, 10]), ([11, 0, 1, 2, 3, 4, 5, 6, 7, 8, 9, 10, 11], [11])])
def lockagelaw06_HeadMade.B5 : List Nat := [0, 0, 3, 0, 8, 24, 63, 0, 0, 256, 896, 2047, 4095]
theorem lockagelaw06_HeadMade.tab5 : rtab .any (opsOf Tryz.f6 5) = lockagelaw06_HeadMade.T5 := by kernel_rfl
theorem lockagelaw06_HeadMade.bits5 : waitsOk lockagelaw06_HeadMade.T5.2 lockagelaw06_HeadMade.B5 = true := by kernel_rfl
def lockagelaw06_HeadMade.T8 : Bool × List (List Nat × List Nat) := (true, [([], []), ([], []), ([0, 1], [0, 1]), ([], []), ([], []), ([4], [4]), ([3, 5], [3, 5]), ([2, 6], [2, 6]), ([7, 0, 1, 2, 3, 4, 5, 6, 7], [7])])
def lockagelaw06_HeadMade.B8 : List Nat := [0, 0, 3, 0, 0, 16, 56, 127, 255]
theorem lockagelaw06_HeadMade.tab8 : rtab .any (opsOf Tryz.f6 8) = lockagelaw06_HeadMade.T8 := by kernel_rfl
theorem lockagelaw06_HeadMade.bits8 : waitsOk lockagelaw06_HeadMade.T8.2 lockagelaw06_HeadMade.B8 = true := by kernel_rfl
def lockagelaw06_HeadMade.T12 : Bool × List (List Nat × List Nat) := (true, [([], []), ([], []), ([0, 1], [0, 1]), ([], []), ([], []), ([4], [4]), ([5], [5]), ([3, 6], [3, 6]), ([7], [7]), ([2, 8], [2, 8]), ([], []), ([], []), ([10, 11], [10, 11]), ([9, 12], [9, 12]), ([13, 0, 1, 2, 3, 4, 5, 6, 7, 8, 9, 10, 11, 12, 13], [13])])
def lockagelaw06_HeadMade.B12 : List Nat := [0, 0, 3, 0, 0, 16, 48, 120, 248, 511, 0, 0, 3072, 8191, 16383]
theorem lockagelaw06_HeadMade.tab12 : rtab .any (opsOf Tryz.f6 12) = lockagelaw06_HeadMade.T12 := by kernel_rfl
theorem lockagelaw06_HeadMade.bits12 : waitsOk lockagelaw06_HeadMade.T12.2 lockagelaw06_HeadMade.B12 = true := by kernel_rfl
set_option maxHeartbeats 8000000 in
set_option maxRecDepth 100000 in
theorem lockagelaw06_HeadMade.calls (k : Nat) (A0 : Option Addr) (c0 : Nat) (l0 : List Int) (a1 : Bool) (a2 : Int) (a3 : Int) (a4 : Int) (r : Bool) (w : World) (hr0 : Kd.C (Kd.int .u8) w A0 l0.length l0) (hc0 : l0.length ≤ c0) (hG_ : H.GlobOk w) (h : lockagelaw06_HeadMade.f k l0 a1 a2 a3 a4 = some r) :
  Calls Tryz.prog 6 #[.slice A0 l0.length c0, .bool a1, .int .u8 a2, .int .u8 a3, .int .u8 a4] w fun e w' => e = .returned (.bool r) ∧ Below w.heap.size w w' := by
 have HG_ := aM hG_; clear hG_; have hu30 := Tryz.underlying30; have HR0 := aM hr0; have HC0 := aM hc0; clear hr0 hc0; have HB := aM (Below.refl w.heap.size w); have H := h; unfold lockagelaw06_HeadMade.f at H; clear h; replace H := Option.bind_eq_some_iff.mp H; obtain ⟨⟨t418, t419, t420, t421, t422, t423⟩, A60, H⟩ := H; (try dsimp only at H); have A6 := aM A60; clear A60; replace H := Option.bind_eq_some_iff.mp H; obtain ⟨t427, A70, H⟩ := H; (try dsimp only at H); have A7 := aM A70; clear A70; obtain ⟨ji8, hji8⟩ : ∃ j_ : Int, (wrap64 ((t427.size : Int) - 4)) = j_ := ⟨_, rfl⟩
 (first | rw [hji8] at H | simp only [hji8] at H)
 (try rw [hji8] at A6)
 (try rw [hji8] at A7)
 have hji8w : (IntKind.i64.wrap ((t427.size : Int) - 4)) = ji8 := (i64_w _).trans hji8; by_cases c9 : 0 ≤ (ji8)
 ·rw [if_pos c9] at H; have c9b0 := eq_true c9; have c9b1 : decide (0 ≤ (ji8)) = true := decide_eq_true c9; clear c9; by_cases c10 : (ji8) ≤ (t427.size : Int)
  ·rw [if_pos c10] at H; have c10b0 := eq_true c10; have c10b1 : decide ((ji8) ≤ (t427.size : Int)) = true := decide_eq_true c10; clear c10; obtain ⟨T427, hT427⟩ : ∃ l_ : ByteArray, (t427.extract 0 ((ji8) : Int).toNat) = l_ := ⟨_, rfl⟩; rw [hT427] at H; by_cases c11 : (T427.size : Int) = 0
   ·rw [if_pos c11] at H; exact absurd H (by simp)
   ·rw [if_neg c11] at H; have c11b0 : ((T427.size : Int) == 0) = false := beq_eq_false_iff_ne.mpr c11; have c11b1 : ((T427.size : Int) != 0) = true := bne_iff_ne.mpr c11; obtain ⟨ji12, hji12⟩ : ∃ j_ : Int, (Int.tmod (wrap64 (a2)) (T427.size : Int)) = j_ := ⟨_, rfl⟩
    (first | rw [hji12] at H | simp only [hji12] at H)
    (try rw [hji12] at A6)
    (try rw [hji12] at A7)
    by_cases c13 : 0 ≤ (ji12)
    ·rw [if_pos c13] at H; have c13b0 := eq_true c13; have c13b1 : decide (0 ≤ (ji12)) = true := decide_eq_true c13; clear c13; by_cases c14 : (ji12) ≤ (T427.size : Int)
     ·rw [if_pos c14] at H; have c14b0 := eq_true c14; have c14b1 : decide ((ji12) ≤ (T427.size : Int)) = true := decide_eq_true c14; clear c14; obtain ⟨y428, hy428⟩ : ∃ y_ : List Int, y_ = (([a3] : List Int)) := ⟨_, rfl⟩; (replace H : (if (T427.extract 0 ((ji12) : Int).toNat).size + (strOfNums y428).size ≤ 9223372036854775807 then (if 0 ≤ (wrap64 ((ji12) + 1)) then (if (wrap64 ((ji12) + 1)) ≤ (T427.size : Int) then (if ((T427.extract 0 ((ji12) : Int).toNat) ++ (strOfNums y428)).size + (T427.extract ((wrap64 ((ji12) + 1)) : Int).toNat T427.size).size ≤ 9223372036854775807 then (if (Int.tmod a4 4) = 1 then (if (T427.extract 0 ((ji12) : Int).toNat).size + (T427.extract ((wrap64 ((ji12) + 1)) : Int).toNat T427.size).size ≤ 9223372036854775807 then (lockagelaw06_HeadMade.j0 k T427 ((T427.extract 0 ((ji12) : Int).toNat) ++ (T427.extract ((wrap64 ((ji12) + 1)) : Int).toNat T427.size)) t418 t419 t420 t421 t422 t423) else (none)) else (if (Int.tmod a4 4) = 2 then (lockagelaw06_HeadMade.j0 k T427 (T427.extract 0 ((ji12) : Int).toNat) t418 t419 t420 t421 t422 t423) else (if (Int.tmod a4 4) = 3 then ((some (([(⟨#[32]⟩ : ByteArray), (⟨#[58]⟩ : ByteArray), (⟨#[13, 10]⟩ : ByteArray), (⟨#[13]⟩ : ByteArray), (⟨#[10]⟩ : ByteArray), (⟨#[49]⟩ : ByteArray), (⟨#[44]⟩ : ByteArray), (⟨#[9]⟩ : ByteArray)] : List ByteArray) : List ByteArray)).bind fun y431 => (if 0 ≤ (Int.tmod (wrap64 (a3)) 8) then (if (Int.tmod (wrap64 (a3)) 8) < (y431.length : Int) then (if (T427.extract 0 ((ji12) : Int).toNat).size + (rdOf ByteArray.empty y431 (Int.tmod (wrap64 (a3)) 8)).size ≤ 9223372036854775807 then (if ((T427.extract 0 ((ji12) : Int).toNat) ++ (rdOf ByteArray.empty y431 (Int.tmod (wrap64 (a3)) 8))).size + (T427.extract ((ji12) : Int).toNat T427.size).size ≤ 9223372036854775807 then (lockagelaw06_HeadMade.j0 k T427 (((T427.extract 0 ((ji12) : Int).toNat) ++ (rdOf ByteArray.empty y431 (Int.tmod (wrap64 (a3)) 8))) ++ (T427.extract ((ji12) : Int).toNat T427.size)) t418 t419 t420 t421 t422 t423) else (none)) else (none)) else (none)) else (none))) else (lockagelaw06_HeadMade.j0 k T427 (((T427.extract 0 ((ji12) : Int).toNat) ++ (strOfNums y428)) ++ (T427.extract ((wrap64 ((ji12) + 1)) : Int).toNat T427.size)) t418 t419 t420 t421 t422 t423)))) else (none)) else (none)) else (none)) else (none)) = some r := by first | (rw [hy428]; with_reducible exact H) | (have H2_ := (Option.bind_some _ _).symm.trans H; rw [hy428]; with_reducible exact H2_) | (have H2_ := (Option.bind_some _ _).symm.trans H; with_reducible exact H2_) | with_reducible exact H | (rw [hy428]; exact H) | exact H); have Ny428 := aM hy428; clear hy428; obtain ⟨A427, hA427⟩ : ∃ l_ : ByteArray, (T427.extract 0 ((ji12) : Int).toNat) = l_ := ⟨_, rfl⟩; rw [hA427] at H; by_cases c15 : A427.size + (strOfNums y428).size ≤ 9223372036854775807
      ·rw [if_pos c15] at H; have c15b0 := eq_true c15; have c15b1 : decide (A427.size + (strOfNums y428).size ≤ 9223372036854775807) = true := decide_eq_true c15
       try have c15b2 : (9223372036854775807 < A427.size + (strOfNums y428).size) = False := eq_false (Nat.not_lt.2 c15)
       obtain ⟨ji16, hji16⟩ : ∃ j_ : Int, (wrap64 ((ji12) + 1)) = j_ := ⟨_, rfl⟩
       (first | rw [hji16] at H | simp only [hji16] at H)
       (try rw [hji16] at A6)
       (try rw [hji16] at A7)
       have hji16w : (IntKind.i64.wrap ((ji12) + 1)) = ji16 := (i64_w _).trans hji16; by_cases c17 : 0 ≤ (ji16)
       ·rw [if_pos c17] at H; have c17b0 := eq_true c17; have c17b1 : decide (0 ≤ (ji16)) = true := decide_eq_true c17; clear c17; by_cases c18 : (ji16) ≤ (T427.size : Int)
        ·rw [if_pos c18] at H; have c18b0 := eq_true c18; have c18b1 : decide ((ji16) ≤ (T427.size : Int)) = true := decide_eq_true c18; clear c18; obtain ⟨B427, hB427⟩ : ∃ l_ : ByteArray, (T427.extract ((ji16) : Int).toNat T427.size) = l_ := ⟨_, rfl⟩; rw [hB427] at H; obtain ⟨C427, hC427⟩ : ∃ l_ : ByteArray, (T427.extract ((ji12) : Int).toNat T427.size) = l_ := ⟨_, rfl⟩; rw [hC427] at H; by_cases c19 : (A427 ++ (strOfNums y428)).size + B427.size ≤ 9223372036854775807
         ·rw [if_pos c19] at H; have c19b0 := eq_true c19; have c19b1 : decide ((A427 ++ (strOfNums y428)).size + B427.size ≤ 9223372036854775807) = true := decide_eq_true c19
          try have c19b2 : (9223372036854775807 < (A427 ++ (strOfNums y428)).size + B427.size) = False := eq_false (Nat.not_lt.2 c19)
          try have c19b9 : (9223372036854775807 < A427.size + (strOfNums y428).size + B427.size) = False := eq_false (Nat.not_lt.2 (by have z_ := c19; simp only [ByteArray.size_append] at z_; exact z_))
          have HC20 := aM H; clear H
          go_enter Tryz.func6, Tryz.ntmps6
          try go_wp2_with (first | ((with_reducible refine gate_callee (f := 13) rfl ?_); refine goesL_ (some 17) rfl rfl Tryz.func13 (by kernel_rfl) rfl #[.slice A0 l0.length c0, .bool a1] rfl (by (try simp only [List.map_toArray, List.map_cons, List.map_nil]); first | done | rfl | (simp only [List.length_drop, List.length_take]; rfl)) ?_; (with_reducible refine (lockagelaw06_Made.calls k _ _ l0 a1 t418 t419 t420 t421 t422 t423 _ ?side1 ?side2 A6.out).mono ?_); (case side1 => repeat (first | exact HR0.out | (with_reducible refine Kd.C_alloc ?_ _) | (with_reducible refine Kd.C_drewN ?_ _) | (with_reducible refine Kd.C_drew ?_))); (case side2 => exact HC0.out); rintro e w21 ⟨v424, rfl, ho0, hb⟩; refine ⟨_, rfl, ?_⟩; have n0_ := aM (Kd.R_lower ho0 (below_size (by repeat (first | (with_reducible first | exact HB.out | apply lA | apply lN | apply lD) | exact HB.out)))); have n1_ := aM (below_step (by repeat (first | (with_reducible first | exact HB.out | apply lA | apply lN | apply lD) | exact HB.out)) hb); clear HB; have HO425 := n0_; have HB := n1_; clear n0_ n1_; (try clear hb); (try clear hb2); (try clear hk); (try clear hi); (try clear ho0)) | ((with_reducible refine gate_dst (N := 11) rfl ?_); refine box_event ?hg (N := 11) ?hd (cs := #[.string (⟨#[]⟩ : ByteArray), .string (⟨#[]⟩ : ByteArray), .int .i64 0, .string (⟨#[]⟩ : ByteArray), .int .i64 0, .slice none 0 0]) (t := 30) ?hr ?_; (case hd => rfl); (case hg => rfl); (case hr => first | (go_simp; done) | (go_simp; rfl)); intro gb426 hg w22 hbox hb; have n0_ := aM (Kd.R_below (by (with_reducible repeat (first | apply rA | apply rN | apply rD)); exact HO425.out) hb); have n1_ := aM (below_step (by repeat (first | (with_reducible first | exact HB.out | apply lA | apply lN | apply lD) | exact HB.out)) hb); have n2_ := aM (hbox); have n3_ := aM ((by rw [hg]; exact (below_size (by repeat (first | (with_reducible first | exact HB.out | apply lA | apply lN | apply lD) | exact HB.out))) : w.heap.size ≤ gb426)); have n4_ := n3_; clear HO425 HB; have HO425 := n0_; have HB := n1_; have BK426 := n2_; have GW426 := n3_; have GE426 := n4_; clear n0_ n1_ n2_ n3_ n4_; clear hb hbox hg; obtain ⟨hcz23_0, hcz23_1, hcz23_2, hcz23_3, hcz23_4, hcz23_5, hfz23_0, hfz23_1, hfz23_2, hfz23_3, hfz23_4, hfz23_5⟩ := cz6 BK426.out; obtain ⟨Ao24, co24, eo24⟩ := Kd.R_slice HO425.out; subst eo24) | ((with_reducible refine gate_callee (f := 14) rfl ?_); refine goesL_ (some 20) rfl rfl Tryz.func14 (by kernel_rfl) rfl #[.agg #[.string t418, .string t419, .int .i64 t420, .string t421, .int .i64 t422, .slice Ao24 t423.length co24], .bool a1] rfl (by (try simp only [List.map_toArray, List.map_cons, List.map_nil]); first | done | rfl | (simp only [List.length_drop, List.length_take]; rfl)) ?_; (with_reducible refine (lockageref06_Text.calls k t418 t419 t420 t421 t422 _ _ t423 a1 t427 _ ?side1 ?side2 A7.out).mono ?_); (case side1 => refine (Kd.R_reads' (e := 37) (base := w.heap.size) (ok := fun k_ => True) (n := t423.length) (c := co24) ?_).2.2; exact (by (with_reducible repeat (first | apply rA | apply rN | apply rD)); exact (rF6 HO425.out BK426.out (by decide)))); (case side2 => exact (Kd.R_reads' HO425.out).2.1); rintro e w25 ⟨rfl, hb⟩; refine ⟨_, rfl, ?_⟩; have n0_ := aM (Kd.R_below (by (with_reducible repeat (first | apply rA | apply rN | apply rD)); exact (rF6 HO425.out BK426.out (by decide))) hb); have n1_ := aM (blk_below (g := gb426) (o := .cells #[.string t418, .string t419, .int .i64 t420, .string t421, .int .i64 t422, .slice Ao24 t423.length co24] 30 (0, 0)) (by (repeat (first | (with_reducible first | refine bN ?_ _ | refine bD ?_ | refine bA ?_ _ | apply p6_5 | apply p6_4 | apply p6_3 | apply p6_2 | apply p6_1 | apply p6_0))); exact BK426.out) hb); have n2_ := aM (below_step (by repeat (first | (with_reducible first | exact HB.out | apply lA | apply lN | apply lD | refine below_set ?_ GE426.out) | exact HB.out)) hb); clear HO425 BK426 HB; have HO425 := n0_; have BK426 := n1_; have HB := n2_; clear n0_ n1_ n2_; (try clear hb); (try clear hb2); (try clear hk); (try clear hi)))
          have n0_ := aM (rD HO425.out); have n1_ := aM (bD BK426.out); have n2_ := aM (lD HB.out); clear HO425 BK426 HB; have HO425 := n0_; have BK426 := n1_; have HB := n2_; clear n0_ n1_ n2_
          refine start_ (n := 13) (S := fun w' => True) (ds := []) #[false, false, false, false, false, false, false, false, false, false, false, false, false] (by kernel_rfl) rfl rfl trivial (fun hHeld => ?_); refine with_tabW lockagelaw06_HeadMade.tab5 lockagelaw06_HeadMade.bits5 (fun HT_ HW_ => ?_)
          generalize w25.drew = w26 at HO425 BK426 HB hHeld ⊢
          refine pure_ (i := 0) (N := some 31) (v := ?_) (a' := ?_) #[true, false, false, false, false, false, false, false, false, false, false, false, false] rfl rfl (any_of HT_.out (by kernel_rfl)) (fun _ _ _ h => h) (Or.inl ⟨by rfl, ?_⟩) ?_ ?_
          rotate_left
          ·intro w'; go_simp; (with_reducible rfl)
          rotate_left
          ·simp only [Act.put, List.setIfInBounds_toArray, List.set_cons_zero, List.set_cons_succ, i64_w, i32_w]; rfl
          refine pure_ (i := 1) (N := some 32) (v := ?_) (a' := ?_) #[true, true, false, false, false, false, false, false, false, false, false, false, false] rfl rfl (any_of HT_.out (by kernel_rfl)) (fun _ _ _ h => h) (Or.inl ⟨by rfl, ?_⟩) ?_ ?_
          rotate_left
          ·intro w'; go_simp; (with_reducible rfl)
          rotate_left
          ·simp only [Act.put, List.setIfInBounds_toArray, List.set_cons_zero, List.set_cons_succ, i64_w, i32_w]; rfl
          refine pure_ (i := 2) (N := some 33) (v := ?_) (a' := ?_) #[true, true, true, false, false, false, false, false, false, false, false, false, false] rfl rfl (any_of HT_.out (by kernel_rfl)) (fun _ _ _ h => h) (Or.inl ⟨by rfl, ?_⟩) ?_ ?_
          rotate_left
          ·intro w'; go_simp; (with_reducible rfl)
          rotate_left
          ·simp only [Act.put, List.setIfInBounds_toArray, List.set_cons_zero, List.set_cons_succ, i64_w, i32_w]; rfl
          refine pure_ (i := 3) (N := some 34) (v := ?_) (a' := ?_) #[true, true, true, true, false, false, false, false, false, false, false, false, false] rfl rfl (any_of HT_.out (by kernel_rfl)) (fun _ _ _ h => h) (Or.inl ⟨by rfl, ?_⟩) ?_ ?_
          rotate_left
          ·intro w'; go_simp; (with_reducible rfl)
          rotate_left
          ·simp only [Act.put, List.setIfInBounds_toArray, List.set_cons_zero, List.set_cons_succ, i64_w, i32_w]; rfl
          refine pure_ (i := 7) (N := some 38) (v := ?_) (a' := ?_) #[true, true, true, true, false, false, false, true, false, false, false, false, false] rfl rfl (any_of HT_.out (by kernel_rfl)) (fun _ _ _ h => h) (Or.inl ⟨by rfl, ?_⟩) ?_ ?_
          rotate_left
          ·intro w'; go_simp; (with_reducible rfl)
          rotate_left
          ·simp only [Act.put, List.setIfInBounds_toArray, List.set_cons_zero, List.set_cons_succ, i64_w, i32_w]; rfl
          refine pure_ (i := 8) (N := some 39) (v := ?_) (a' := ?_) #[true, true, true, true, false, false, false, true, true, false, false, false, false] rfl rfl (any_of HT_.out (by kernel_rfl)) (fun _ _ _ h => h) (Or.inl ⟨by rfl, ?_⟩) ?_ ?_
          rotate_left
          ·intro w'; go_simp; (with_reducible rfl)
          rotate_left
          ·simp only [Act.put, List.setIfInBounds_toArray, List.set_cons_zero, List.set_cons_succ, i64_w, i32_w]; rfl
          refine pure_ (i := 9) (N := some 40) (v := ?_) (a' := ?_) #[true, true, true, true, false, false, false, true, true, true, false, false, false] rfl rfl (any_of HT_.out (by kernel_rfl)) (fun _ _ _ h => h) (Or.inl ⟨by rfl, ?_⟩) ?_ ?_
          rotate_left
          ·intro w'; go_simp; (with_reducible rfl)
          rotate_left
          ·simp only [Act.put, List.setIfInBounds_toArray, List.set_cons_zero, List.set_cons_succ, i64_w, i32_w]; rfl
          refine pure_ (i := 10) (N := some 41) (v := ?_) (a' := ?_) #[true, true, true, true, false, false, false, true, true, true, true, false, false] rfl rfl (any_of HT_.out (by kernel_rfl)) (fun _ _ _ h => h) (Or.inl ⟨by rfl, ?_⟩) ?_ ?_
          rotate_left
          ·intro w'; go_simp; (with_reducible rfl)
          rotate_left
          ·simp only [Act.put, List.setIfInBounds_toArray, List.set_cons_zero, List.set_cons_succ, i64_w, i32_w]; rfl
          refine one_ (i := 4) (N := some 35) #[true, true, true, true, true, false, false, true, true, true, true, false, false] rfl rfl (one_of HT_.out (by kernel_rfl)) (by decide) (fun K hK => ?_)
          refine Kd.R_lit_step (Kd.int .u8) _ 5 ?hg (N := 35) ?hd (xs := ([a3] : List Int)) (inner := [.int .u8 a3]) (ok := fun _ => True) (okp := fun _ => True) ?hr ?hp (fun _ hk => hk) trivial (Below.refl _ _) (Nat.le_refl _) (by simp) ?_; (case hd => rfl); (case hg => rfl); (case hr => first | (go_simp; done) | (go_simp; rfl)); (case hp => exact (Reps.one (show Kd.M (Kd.int .u8) _ _ _ a3 [.int .u8 a3] from rfl) (Reps.none _ _)))
          intro v429 w27 ho28 hb hg_ hnew_; clear hg_ hnew_
          (first | rw [← Ny428.out] at ho28 | (simp only [Int.reduceToNat] at ho28; rw [← Ny428.out] at ho28))
          have n0_ := aM (Kd.R_below (by (with_reducible repeat (first | apply rA | apply rN | apply rD)); exact HO425.out) hb); have n1_ := aM (Kd.R_lower ho28 (below_size (by repeat (first | (with_reducible first | exact HB.out | apply lA | apply lN | apply lD | refine below_set ?_ GE426.out) | exact HB.out)))); have n2_ := aM (blk_below (g := gb426) (o := .cells #[.string t418, .string t419, .int .i64 t420, .string t421, .int .i64 t422, .slice Ao24 t423.length co24] 30 (0, 0)) (by (with_reducible repeat (first | refine bN ?_ _ | refine bD ?_ | refine bA ?_ _)); exact BK426.out) hb); have n3_ := aM (below_step (by repeat (first | (with_reducible first | exact HB.out | apply lA | apply lN | apply lD | refine below_set ?_ GE426.out) | exact HB.out)) hb); clear HO425 BK426 HB; have HO425 := n0_; have HO430 := n1_; have BK426 := n2_; have HB := n3_; clear n0_ n1_ n2_ n3_; clear hb ho28
          refine hK.out _ _ trivial (fun hHeld => ?_)
          clear hK K
          refine norm_ (a' := ?_) ?_ ?_
          rotate_left
          ·show Act.put _ (some 35) _ = _
           simp only [Act.put, List.setIfInBounds_toArray, List.set_cons_zero, List.set_cons_succ, i64_w, i32_w]; rfl
          refine one_ (i := 5) (N := some 36) #[true, true, true, true, true, true, false, true, true, true, true, false, false] rfl rfl (one_of HT_.out (by kernel_rfl)) (by decide) (fun K hK => ?_)
          have hcv29 := own_string (P := Tryz.prog) Tryz.underlying24 Tryz.underlying5 Tryz.underlying9 (Kd.own_of_R HO430.out)
          refine value_ (w1 := ?_) (v := ?_) (by rfl) rfl ?_ ?_
          rotate_left 2
          ·go_simp
           constructor
           ·rfl
           ·rfl
          clear hcv29
          refine hK.out _ _ trivial (fun hHeld => ?_)
          clear hK K
          refine norm_ (a' := ?_) ?_ ?_
          rotate_left
          ·show Act.put _ (some 36) _ = _
           simp only [Act.put, List.setIfInBounds_toArray, List.set_cons_zero, List.set_cons_succ, i64_w, i32_w]; rfl
          refine pure_ (i := 6) (N := some 37) (v := ?_) (a' := ?_) #[true, true, true, true, true, true, true, true, true, true, true, false, false] rfl rfl (any_of HT_.out (by kernel_rfl)) (fun _ _ _ h => h) (Or.inl ⟨by rfl, ?_⟩) ?_ ?_
          rotate_left
          ·intro w'; go_simp; (with_reducible rfl)
          rotate_left
          ·simp only [Act.put, List.setIfInBounds_toArray, List.set_cons_zero, List.set_cons_succ, i64_w, i32_w]; rfl
          refine pure_ (i := 11) (N := some 42) (v := ?_) (a' := ?_) #[true, true, true, true, true, true, true, true, true, true, true, true, false] rfl rfl (any_of HT_.out (by kernel_rfl)) (fun _ _ _ h => h) (Or.inl ⟨by rfl, ?_⟩) ?_ ?_
          rotate_left
          ·intro w'; go_simp; (with_reducible rfl)
          rotate_left
          ·simp only [Act.put, List.setIfInBounds_toArray, List.set_cons_zero, List.set_cons_succ, i64_w, i32_w]; rfl
          refine pure_ (i := 12) (N := some 14) (v := ?_) (a' := ?_) #[true, true, true, true, true, true, true, true, true, true, true, true, true] rfl rfl (any_of HT_.out (by kernel_rfl)) (fun _ _ _ h => h) (Or.inl ⟨by rfl, ?_⟩) ?_ ?_
          rotate_left
          ·intro w'; go_simp; (with_reducible rfl)
          rotate_left
          ·simp only [Act.put, List.setIfInBounds_toArray, List.set_cons_zero, List.set_cons_succ, i64_w, i32_w]; rfl
          refine done_ (done_of HT_.out (by kernel_rfl)) ?_
          go_upto_block 0 with (fail)
          go_cut [14] (fun v14 wc => ∃ (kq : Nat) (x14_19 : ByteArray), v14 = .string x14_19 ∧ Aside0 (lockagelaw06_HeadMade.j0 kq T427 x14_19 t418 t419 t420 t421 t422 t423 = some r) ∧ Aside0 (kq ≤ k) ∧ Aside0 (Kd.R k37 37 wc w.heap.size (fun _ => True) (.slice Ao24 t423.length co24) t423) ∧ Aside0 (wc.heap[gb426]? = some (.cells #[.string t418, .string t419, .int .i64 t420, .string t421, .int .i64 t422, (.slice Ao24 t423.length co24)] 30 (0, 0))) ∧ Aside0 (Below w.heap.size w wc))
          case first =>
           have H := HC20.out; clear HC20; by_cases c30 : (Int.tmod a4 4) = 1
           ·rw [if_pos c30] at H; have c30b0 : ((Int.tmod a4 4) == 1) = true := beq_iff_eq.mpr c30; have c30b1 : ((Int.tmod a4 4) != 1) = false := bne_eq_false_iff_eq.mpr c30; clear c30
            (first | rw [c30b0] | (simp only [i64_w, i32_w]; rw [c30b0]) | skip)
            have c31b0 := eq_true (of_decide_eq_true (by first | (with_reducible assumption) | assumption) : 0 ≤ (ji12)); have c32b0 := eq_true (of_decide_eq_true (by first | (with_reducible assumption) | assumption) : (ji12) ≤ (T427.size : Int)); have c33b0 := eq_true (of_decide_eq_true (by first | (with_reducible assumption) | assumption) : 0 ≤ (ji16)); have c34b0 := eq_true (of_decide_eq_true (by first | (with_reducible assumption) | assumption) : (ji16) ≤ (T427.size : Int)); by_cases c35 : A427.size + B427.size ≤ 9223372036854775807
            ·rw [if_pos c35] at H; have c35b0 := eq_true c35; have c35b1 : decide (A427.size + B427.size ≤ 9223372036854775807) = true := decide_eq_true c35
             try have c35b2 : (9223372036854775807 < A427.size + B427.size) = False := eq_false (Nat.not_lt.2 c35)
             have H' := aM H; clear H
             try go_wp2
             have n0_ := aM (rD HO425.out); have n1_ := aM (rD HO430.out); have n2_ := aM (bD BK426.out); have n3_ := aM (lD HB.out); clear HO425 HO430 BK426 HB; have HO425 := n0_; have HO430 := n1_; have BK426 := n2_; have HB := n3_; clear n0_ n1_ n2_ n3_
             refine start_ (n := 9) (S := fun w' => True) (ds := []) #[false, false, false, false, false, false, false, false, false] (by kernel_rfl) rfl rfl trivial (fun hHeld => ?_); refine with_tabW lockagelaw06_HeadMade.tab8 lockagelaw06_HeadMade.bits8 (fun HT_ HW_ => ?_)
             generalize w27.drew = w36 at HO425 HO430 BK426 HB hHeld ⊢
             refine pure_ (i := 0) (N := some 47) (v := ?_) (a' := ?_) #[true, false, false, false, false, false, false, false, false] rfl rfl (any_of HT_.out (by kernel_rfl)) (fun _ _ _ h => h) (Or.inl ⟨by rfl, ?_⟩) ?_ ?_
             rotate_left
             ·intro w'; go_simp; (with_reducible rfl)
             rotate_left
             ·simp only [Act.put, List.setIfInBounds_toArray, List.set_cons_zero, List.set_cons_succ, i64_w, i32_w]; rfl
             refine pure_ (i := 1) (N := some 48) (v := ?_) (a' := ?_) #[true, true, false, false, false, false, false, false, false] rfl rfl (any_of HT_.out (by kernel_rfl)) (fun _ _ _ h => h) (Or.inl ⟨by rfl, ?_⟩) ?_ ?_
             rotate_left
             ·intro w'; go_simp; (with_reducible rfl)
             rotate_left
             ·simp only [Act.put, List.setIfInBounds_toArray, List.set_cons_zero, List.set_cons_succ, i64_w, i32_w]; rfl
             refine pure_ (i := 2) (N := some 49) (v := ?_) (a' := ?_) #[true, true, true, false, false, false, false, false, false] rfl rfl (any_of HT_.out (by kernel_rfl)) (fun _ _ _ h => h) (Or.inl ⟨by rfl, ?_⟩) ?_ ?_
             rotate_left
             ·intro w'; go_simp; (with_reducible rfl)
             rotate_left
             ·simp only [Act.put, List.setIfInBounds_toArray, List.set_cons_zero, List.set_cons_succ, i64_w, i32_w]; rfl
             refine pure_ (i := 3) (N := some 50) (v := ?_) (a' := ?_) #[true, true, true, true, false, false, false, false, false] rfl rfl (any_of HT_.out (by kernel_rfl)) (fun _ _ _ h => h) (Or.inl ⟨by rfl, ?_⟩) ?_ ?_
             rotate_left
             ·intro w'; go_simp; (with_reducible rfl)
             rotate_left
             ·simp only [Act.put, List.setIfInBounds_toArray, List.set_cons_zero, List.set_cons_succ, i64_w, i32_w]; rfl
             refine pure_ (i := 4) (N := some 51) (v := ?_) (a' := ?_) #[true, true, true, true, true, false, false, false, false] rfl rfl (any_of HT_.out (by kernel_rfl)) (fun _ _ _ h => h) (Or.inl ⟨by rfl, ?_⟩) ?_ ?_
             rotate_left
             ·intro w'; go_simp; (with_reducible rfl)
             rotate_left
             ·simp only [Act.put, List.setIfInBounds_toArray, List.set_cons_zero, List.set_cons_succ, i64_w, i32_w]; rfl
             refine pure_ (i := 5) (N := some 52) (v := ?_) (a' := ?_) #[true, true, true, true, true, true, false, false, false] rfl rfl (any_of HT_.out (by kernel_rfl)) (fun _ _ _ h => h) (Or.inl ⟨by rfl, ?_⟩) ?_ ?_
             rotate_left
             ·intro w'; go_simp; (with_reducible rfl)
             rotate_left
             ·simp only [Act.put, List.setIfInBounds_toArray, List.set_cons_zero, List.set_cons_succ, i64_w, i32_w]; rfl
             refine pure_ (i := 6) (N := some 53) (v := ?_) (a' := ?_) #[true, true, true, true, true, true, true, false, false] rfl rfl (any_of HT_.out (by kernel_rfl)) (fun _ _ _ h => h) (Or.inl ⟨by rfl, ?_⟩) ?_ ?_
             rotate_left
             ·intro w'; go_simp; (with_reducible rfl)
             rotate_left
             ·simp only [Act.put, List.setIfInBounds_toArray, List.set_cons_zero, List.set_cons_succ, i64_w, i32_w]; rfl
             refine pure_ (i := 7) (N := some 54) (v := ?_) (a' := ?_) #[true, true, true, true, true, true, true, true, false] rfl rfl (any_of HT_.out (by kernel_rfl)) (fun _ _ _ h => h) (Or.inl ⟨by rfl, ?_⟩) ?_ ?_
             rotate_left
             ·intro w'; go_simp; (with_reducible rfl)
             rotate_left
             ·simp only [Act.put, List.setIfInBounds_toArray, List.set_cons_zero, List.set_cons_succ, i64_w, i32_w]; rfl
             refine pure_ (i := 8) (N := some 14) (v := ?_) (a' := ?_) #[true, true, true, true, true, true, true, true, true] rfl rfl (any_of HT_.out (by kernel_rfl)) (fun _ _ _ h => h) (Or.inl ⟨by rfl, ?_⟩) ?_ ?_
             rotate_left
             ·intro w'; go_simp; (with_reducible rfl)
             rotate_left
             ·simp only [Act.put, List.setIfInBounds_toArray, List.set_cons_zero, List.set_cons_succ, i64_w, i32_w]; rfl
             refine done_ (done_of HT_.out (by kernel_rfl)) ?_
             try go_wp2
             go_meet
             case rel => exact ⟨_, (A427 ++ B427), (by first | rfl | (simp; done) | (simp only [← hji8, ← hji12, ← hji16] <;> (first | rfl | simp)) | (simp [*]; done)), H', ⟨by first | omega | exact Nat.le_refl _⟩, ⟨by (with_reducible repeat (first | apply rA | apply rN | apply rD)); exact HO425.out⟩, ⟨by (with_reducible repeat (first | refine bN ?_ _ | refine bD ?_ | refine bA ?_ _)); exact BK426.out⟩, ⟨by repeat (first | (with_reducible first | exact HB.out | apply lA | apply lN | apply lD | refine below_set ?_ GE426.out) | exact HB.out)⟩⟩
            ·rw [if_neg c35] at H; exact absurd H (by simp)
           ·rw [if_neg c30] at H; have c30b0 : ((Int.tmod a4 4) == 1) = false := beq_eq_false_iff_ne.mpr c30; have c30b1 : ((Int.tmod a4 4) != 1) = true := bne_iff_ne.mpr c30
            (first | rw [c30b0] | (simp only [i64_w, i32_w]; rw [c30b0]) | skip)
            by_cases c37 : (Int.tmod a4 4) = 2
            ·rw [if_pos c37] at H; have c37b0 : ((Int.tmod a4 4) == 2) = true := beq_iff_eq.mpr c37; have c37b1 : ((Int.tmod a4 4) != 2) = false := bne_eq_false_iff_eq.mpr c37; clear c37; have c38b0 := eq_true (of_decide_eq_true (by first | (with_reducible assumption) | assumption) : 0 ≤ (ji12)); have c39b0 := eq_true (of_decide_eq_true (by first | (with_reducible assumption) | assumption) : (ji12) ≤ (T427.size : Int)); have H' := aM H; clear H
             go_wp2
             go_meet
             case rel => exact ⟨_, A427, (by first | rfl | (simp; done) | (simp only [← hji8, ← hji12] <;> (first | rfl | simp)) | (simp [*]; done)), H', ⟨by first | omega | exact Nat.le_refl _⟩, ⟨by (with_reducible repeat (first | apply rA | apply rN | apply rD)); exact HO425.out⟩, ⟨by (with_reducible repeat (first | refine bN ?_ _ | refine bD ?_ | refine bA ?_ _)); exact BK426.out⟩, ⟨by repeat (first | (with_reducible first | exact HB.out | apply lA | apply lN | apply lD | refine below_set ?_ GE426.out) | exact HB.out)⟩⟩
            ·rw [if_neg c37] at H; have c37b0 : ((Int.tmod a4 4) == 2) = false := beq_eq_false_iff_ne.mpr c37; have c37b1 : ((Int.tmod a4 4) != 2) = true := bne_iff_ne.mpr c37; by_cases c40 : (Int.tmod a4 4) = 3
             ·rw [if_pos c40] at H; have c40b0 : ((Int.tmod a4 4) == 3) = true := beq_iff_eq.mpr c40; have c40b1 : ((Int.tmod a4 4) != 3) = false := bne_eq_false_iff_eq.mpr c40; clear c40; have c41b0 := eq_true (of_decide_eq_true (by first | (with_reducible assumption) | assumption) : 0 ≤ (ji12)); have c42b0 := eq_true (of_decide_eq_true (by first | (with_reducible assumption) | assumption) : (ji12) ≤ (T427.size : Int)); obtain ⟨y431, hy431⟩ : ∃ y_ : List ByteArray, y_ = (([(⟨#[32]⟩ : ByteArray), (⟨#[58]⟩ : ByteArray), (⟨#[13, 10]⟩ : ByteArray), (⟨#[13]⟩ : ByteArray), (⟨#[10]⟩ : ByteArray), (⟨#[49]⟩ : ByteArray), (⟨#[44]⟩ : ByteArray), (⟨#[9]⟩ : ByteArray)] : List ByteArray)) := ⟨_, rfl⟩; (replace H : (if 0 ≤ (Int.tmod (wrap64 (a3)) 8) then (if (Int.tmod (wrap64 (a3)) 8) < (y431.length : Int) then (if A427.size + (rdOf ByteArray.empty y431 (Int.tmod (wrap64 (a3)) 8)).size ≤ 9223372036854775807 then (if (A427 ++ (rdOf ByteArray.empty y431 (Int.tmod (wrap64 (a3)) 8))).size + C427.size ≤ 9223372036854775807 then (lockagelaw06_HeadMade.j0 k T427 ((A427 ++ (rdOf ByteArray.empty y431 (Int.tmod (wrap64 (a3)) 8))) ++ C427) t418 t419 t420 t421 t422 t423) else (none)) else (none)) else (none)) else (none)) = some r := by first | (rw [hy431]; with_reducible exact H) | (have H2_ := (Option.bind_some _ _).symm.trans H; rw [hy431]; with_reducible exact H2_) | (have H2_ := (Option.bind_some _ _).symm.trans H; with_reducible exact H2_) | with_reducible exact H | (rw [hy431]; exact H) | exact H); have Ny431 := aM hy431; clear hy431; obtain ⟨ji43, hji43⟩ : ∃ j_ : Int, (Int.tmod (wrap64 (a3)) 8) = j_ := ⟨_, rfl⟩
              (first | rw [hji43] at H | simp only [hji43] at H)
              by_cases c44 : 0 ≤ (ji43)
              ·rw [if_pos c44] at H; have c44b0 : decide (0 ≤ (ji43)) = true := decide_eq_true c44; clear c44; by_cases c45 : (ji43) < (y431.length : Int)
               ·rw [if_pos c45] at H; have c45b0 : decide ((ji43) < (y431.length : Int)) = true := decide_eq_true c45; clear c45; by_cases c46 : A427.size + (rdOf ByteArray.empty y431 (ji43)).size ≤ 9223372036854775807
                ·rw [if_pos c46] at H; have c46b0 := eq_true c46; have c46b1 : decide (A427.size + (rdOf ByteArray.empty y431 (ji43)).size ≤ 9223372036854775807) = true := decide_eq_true c46
                 try have c46b2 : (9223372036854775807 < A427.size + (rdOf ByteArray.empty y431 (ji43)).size) = False := eq_false (Nat.not_lt.2 c46)
                 have c47b0 := eq_true (of_decide_eq_true (by first | (with_reducible assumption) | assumption) : 0 ≤ (ji12)); have c48b0 := eq_true (of_decide_eq_true (by first | (with_reducible assumption) | assumption) : (ji12) ≤ (T427.size : Int)); by_cases c49 : (A427 ++ (rdOf ByteArray.empty y431 (ji43))).size + C427.size ≤ 9223372036854775807
                 ·rw [if_pos c49] at H; have c49b0 := eq_true c49; have c49b1 : decide ((A427 ++ (rdOf ByteArray.empty y431 (ji43))).size + C427.size ≤ 9223372036854775807) = true := decide_eq_true c49
                  try have c49b2 : (9223372036854775807 < (A427 ++ (rdOf ByteArray.empty y431 (ji43))).size + C427.size) = False := eq_false (Nat.not_lt.2 c49)
                  try have c49b9 : (9223372036854775807 < A427.size + (rdOf ByteArray.empty y431 (ji43)).size + C427.size) = False := eq_false (Nat.not_lt.2 (by have z_ := c49; simp only [ByteArray.size_append] at z_; exact z_))
                  have H' := aM H; clear H
                  try go_wp2
                  have pi434 : (0 ≤ ((ji43) : Int)) = True := eq_true (of_decide_eq_true (by first | (with_reducible assumption) | assumption)); have qi434 : ((ji43) < (y431.length : Int)) = True := eq_true (of_decide_eq_true (by first | (with_reducible assumption) | assumption)); have n0_ := aM (rD HO425.out); have n1_ := aM (rD HO430.out); have n2_ := aM (bD BK426.out); have n3_ := aM (lD HB.out); clear HO425 HO430 BK426 HB; have HO425 := n0_; have HO430 := n1_; have BK426 := n2_; have HB := n3_; clear n0_ n1_ n2_ n3_
                  refine start_ (n := 15) (S := fun w' => True) (ds := []) #[false, false, false, false, false, false, false, false, false, false, false, false, false, false, false] (by kernel_rfl) rfl rfl trivial (fun hHeld => ?_); refine with_tabW lockagelaw06_HeadMade.tab12 lockagelaw06_HeadMade.bits12 (fun HT_ HW_ => ?_)
                  generalize w27.drew = w50 at HO425 HO430 BK426 HB hHeld ⊢
                  refine pure_ (i := 0) (N := some 62) (v := ?_) (a' := ?_) #[true, false, false, false, false, false, false, false, false, false, false, false, false, false, false] rfl rfl (any_of HT_.out (by kernel_rfl)) (fun _ _ _ h => h) (Or.inl ⟨by rfl, ?_⟩) ?_ ?_
                  rotate_left
                  ·intro w'; go_simp; (with_reducible rfl)
                  rotate_left
                  ·simp only [Act.put, List.setIfInBounds_toArray, List.set_cons_zero, List.set_cons_succ, i64_w, i32_w]; rfl
                  refine pure_ (i := 1) (N := some 63) (v := ?_) (a' := ?_) #[true, true, false, false, false, false, false, false, false, false, false, false, false, false, false] rfl rfl (any_of HT_.out (by kernel_rfl)) (fun _ _ _ h => h) (Or.inl ⟨by rfl, ?_⟩) ?_ ?_
                  rotate_left
                  ·intro w'; go_simp; (with_reducible rfl)
                  rotate_left
                  ·simp only [Act.put, List.setIfInBounds_toArray, List.set_cons_zero, List.set_cons_succ, i64_w, i32_w]; rfl
                  refine pure_ (i := 2) (N := some 64) (v := ?_) (a' := ?_) #[true, true, true, false, false, false, false, false, false, false, false, false, false, false, false] rfl rfl (any_of HT_.out (by kernel_rfl)) (fun _ _ _ h => h) (Or.inl ⟨by rfl, ?_⟩) ?_ ?_
                  rotate_left
                  ·intro w'; go_simp; (with_reducible rfl)
                  rotate_left
                  ·simp only [Act.put, List.setIfInBounds_toArray, List.set_cons_zero, List.set_cons_succ, i64_w, i32_w]; rfl
                  refine pure_ (i := 4) (N := some 66) (v := ?_) (a' := ?_) #[true, true, true, false, true, false, false, false, false, false, false, false, false, false, false] rfl rfl (any_of HT_.out (by kernel_rfl)) (fun _ _ _ h => h) (Or.inl ⟨by rfl, ?_⟩) ?_ ?_
                  rotate_left
                  ·intro w'; go_simp; (with_reducible rfl)
                  rotate_left
                  ·simp only [Act.put, List.setIfInBounds_toArray, List.set_cons_zero, List.set_cons_succ, i64_w, i32_w]; rfl
                  refine pure_ (i := 5) (N := some 67) (v := ?_) (a' := ?_) #[true, true, true, false, true, true, false, false, false, false, false, false, false, false, false] rfl rfl (any_of HT_.out (by kernel_rfl)) (fun _ _ _ h => h) (Or.inl ⟨by rfl, ?_⟩) ?_ ?_
                  rotate_left
                  ·intro w'; go_simp; (with_reducible rfl)
                  rotate_left
                  ·simp only [Act.put, List.setIfInBounds_toArray, List.set_cons_zero, List.set_cons_succ, i64_w, i32_w]; rfl
                  refine pure_ (i := 6) (N := some 68) (v := ?_) (a' := ?_) #[true, true, true, false, true, true, true, false, false, false, false, false, false, false, false] rfl rfl (any_of HT_.out (by kernel_rfl)) (fun _ _ _ h => h) (Or.inl ⟨by rfl, ?_⟩) ?_ ?_
                  rotate_left
                  ·intro w'; go_simp; (with_reducible rfl)
                  rotate_left
                  ·simp only [Act.put, List.setIfInBounds_toArray, List.set_cons_zero, List.set_cons_succ, i64_w, i32_w]; rfl
                  refine pure_ (i := 10) (N := some 72) (v := ?_) (a' := ?_) #[true, true, true, false, true, true, true, false, false, false, true, false, false, false, false] rfl rfl (any_of HT_.out (by kernel_rfl)) (fun _ _ _ h => h) (Or.inl ⟨by rfl, ?_⟩) ?_ ?_
                  rotate_left
                  ·intro w'; go_simp; (with_reducible rfl)
                  rotate_left
                  ·simp only [Act.put, List.setIfInBounds_toArray, List.set_cons_zero, List.set_cons_succ, i64_w, i32_w]; rfl
                  refine pure_ (i := 11) (N := some 73) (v := ?_) (a' := ?_) #[true, true, true, false, true, true, true, false, false, false, true, true, false, false, false] rfl rfl (any_of HT_.out (by kernel_rfl)) (fun _ _ _ h => h) (Or.inl ⟨by rfl, ?_⟩) ?_ ?_
                  rotate_left
                  ·intro w'; go_simp; (with_reducible rfl)
                  rotate_left
                  ·simp only [Act.put, List.setIfInBounds_toArray, List.set_cons_zero, List.set_cons_succ, i64_w, i32_w]; rfl
                  refine pure_ (i := 12) (N := some 74) (v := ?_) (a' := ?_) #[true, true, true, false, true, true, true, false, false, false, true, true, true, false, false] rfl rfl (any_of HT_.out (by kernel_rfl)) (fun _ _ _ h => h) (Or.inl ⟨by rfl, ?_⟩) ?_ ?_
                  rotate_left
                  ·intro w'; go_simp; (with_reducible rfl)
                  rotate_left
                  ·simp only [Act.put, List.setIfInBounds_toArray, List.set_cons_zero, List.set_cons_succ, i64_w, i32_w]; rfl
                  refine one_ (i := 3) (N := some 65) #[true, true, true, true, true, true, true, false, false, false, true, true, true, false, false] rfl rfl (one_of HT_.out (by kernel_rfl)) (by decide) (fun K hK => ?_)
                  refine Kd.R_lit_step Kd.string _ 9 ?hg (N := 65) ?hd (xs := ([(⟨#[32]⟩ : ByteArray), (⟨#[58]⟩ : ByteArray), (⟨#[13, 10]⟩ : ByteArray), (⟨#[13]⟩ : ByteArray), (⟨#[10]⟩ : ByteArray), (⟨#[49]⟩ : ByteArray), (⟨#[44]⟩ : ByteArray), (⟨#[9]⟩ : ByteArray)] : List ByteArray)) (inner := [.string (⟨#[32]⟩ : ByteArray), .string (⟨#[58]⟩ : ByteArray), .string (⟨#[13, 10]⟩ : ByteArray), .string (⟨#[13]⟩ : ByteArray), .string (⟨#[10]⟩ : ByteArray), .string (⟨#[49]⟩ : ByteArray), .string (⟨#[44]⟩ : ByteArray), .string (⟨#[9]⟩ : ByteArray)]) (ok := fun _ => True) (okp := fun _ => True) ?hr ?hp (fun _ hk => hk) trivial (Below.refl _ _) (Nat.le_refl _) (by simp) ?_; (case hd => rfl); (case hg => rfl); (case hr => first | (go_simp; done) | (go_simp; rfl)); (case hp => exact (Reps.one (show Kd.M Kd.string _ _ _ (⟨#[32]⟩ : ByteArray) [.string (⟨#[32]⟩ : ByteArray)] from rfl) (Reps.one (show Kd.M Kd.string _ _ _ (⟨#[58]⟩ : ByteArray) [.string (⟨#[58]⟩ : ByteArray)] from rfl) (Reps.one (show Kd.M Kd.string _ _ _ (⟨#[13, 10]⟩ : ByteArray) [.string (⟨#[13, 10]⟩ : ByteArray)] from rfl) (Reps.one (show Kd.M Kd.string _ _ _ (⟨#[13]⟩ : ByteArray) [.string (⟨#[13]⟩ : ByteArray)] from rfl) (Reps.one (show Kd.M Kd.string _ _ _ (⟨#[10]⟩ : ByteArray) [.string (⟨#[10]⟩ : ByteArray)] from rfl) (Reps.one (show Kd.M Kd.string _ _ _ (⟨#[49]⟩ : ByteArray) [.string (⟨#[49]⟩ : ByteArray)] from rfl) (Reps.one (show Kd.M Kd.string _ _ _ (⟨#[44]⟩ : ByteArray) [.string (⟨#[44]⟩ : ByteArray)] from rfl) (Reps.one (show Kd.M Kd.string _ _ _ (⟨#[9]⟩ : ByteArray) [.string (⟨#[9]⟩ : ByteArray)] from rfl) (Reps.none _ _))))))))))
                  intro v432 w51 ho52 hb hg_ hnew_; clear hg_ hnew_
                  (first | rw [← Ny431.out] at ho52 | (simp only [Int.reduceToNat] at ho52; rw [← Ny431.out] at ho52))
                  have n0_ := aM (Kd.R_below (by (with_reducible repeat (first | apply rA | apply rN | apply rD)); exact HO425.out) hb); have n1_ := aM (Kd.R_below (by (with_reducible repeat (first | apply rA | apply rN | apply rD)); exact HO430.out) hb); have n2_ := aM (Kd.R_lower ho52 (below_size (by repeat (first | (with_reducible first | exact HB.out | apply lA | apply lN | apply lD | refine below_set ?_ GE426.out) | exact HB.out)))); have n3_ := aM (blk_below (g := gb426) (o := .cells #[.string t418, .string t419, .int .i64 t420, .string t421, .int .i64 t422, .slice Ao24 t423.length co24] 30 (0, 0)) (by (with_reducible repeat (first | refine bN ?_ _ | refine bD ?_ | refine bA ?_ _)); exact BK426.out) hb); have n4_ := aM (below_step (by repeat (first | (with_reducible first | exact HB.out | apply lA | apply lN | apply lD | refine below_set ?_ GE426.out) | exact HB.out)) hb); clear HO425 HO430 BK426 HB; have HO425 := n0_; have HO430 := n1_; have HO433 := n2_; have BK426 := n3_; have HB := n4_; clear n0_ n1_ n2_ n3_ n4_; clear hb ho52; obtain ⟨Ao53, co53, eo53⟩ := Kd.R_slice HO433.out; subst eo53; obtain ⟨ado53, fo53, _⟩ := Kd.at_string (Kd.R_reads' HO433.out).2.2 0 (by decide) (by rw [Ny431.out]; simp); cases fo53
                  refine hK.out _ _ trivial (fun hHeld => ?_)
                  clear hK K
                  refine norm_ (a' := ?_) ?_ ?_
                  rotate_left
                  ·show Act.put _ (some 65) _ = _
                   simp only [Act.put, List.setIfInBounds_toArray, List.set_cons_zero, List.set_cons_succ, i64_w, i32_w]; rfl
                  refine pure_ (i := 7) (N := some 69) (v := ?_) (a' := ?_) #[true, true, true, true, true, true, true, true, false, false, true, true, true, false, false] rfl rfl (any_of HT_.out (by kernel_rfl)) (fun _ _ _ h => h) (Or.inl ⟨by rfl, ?_⟩) ?_ ?_
                  rotate_left
                  ·intro w'; go_simp; (with_reducible rfl)
                  rotate_left
                  ·simp only [Act.put, List.setIfInBounds_toArray, List.set_cons_zero, List.set_cons_succ, i64_w, i32_w]; rfl
                  refine one_ (i := 8) (N := some 70) #[true, true, true, true, true, true, true, true, true, false, true, true, true, false, false] rfl rfl (one_of HT_.out (by kernel_rfl)) (by decide) (fun K hK => ?_)
                  (have p434 : 0 ≤ ((ji43) : Int) := of_decide_eq_true (by first | (with_reducible assumption) | assumption); have q434 : (ji43) < (y431.length : Int) := of_decide_eq_true (by first | (with_reducible assumption) | assumption); obtain ⟨ad434, e434, hx434_0⟩ := Kd.at_string (Kd.R_reads' HO433.out).2.2 (ji43) p434 q434; obtain rfl : ado53 = ad434 := (by injection e434))
                  refine value_ (w1 := ?_) (v := ?_) (by rfl) rfl ?_ ?_
                  rotate_left 2
                  ·go_simp
                   constructor
                   ·rfl
                   ·rfl
                  clear hx434_0
                  refine hK.out _ _ trivial (fun hHeld => ?_)
                  clear hK K
                  refine norm_ (a' := ?_) ?_ ?_
                  rotate_left
                  ·show Act.put _ (some 70) _ = _
                   simp only [Act.put, List.setIfInBounds_toArray, List.set_cons_zero, List.set_cons_succ, i64_w, i32_w]; rfl
                  refine pure_ (i := 9) (N := some 71) (v := ?_) (a' := ?_) #[true, true, true, true, true, true, true, true, true, true, true, true, true, false, false] rfl rfl (any_of HT_.out (by kernel_rfl)) (fun _ _ _ h => h) (Or.inl ⟨by rfl, ?_⟩) ?_ ?_
                  rotate_left
                  ·intro w'; go_simp; (with_reducible rfl)
                  rotate_left
                  ·simp only [Act.put, List.setIfInBounds_toArray, List.set_cons_zero, List.set_cons_succ, i64_w, i32_w]; rfl
                  refine pure_ (i := 13) (N := some 75) (v := ?_) (a' := ?_) #[true, true, true, true, true, true, true, true, true, true, true, true, true, true, false] rfl rfl (any_of HT_.out (by kernel_rfl)) (fun _ _ _ h => h) (Or.inl ⟨by rfl, ?_⟩) ?_ ?_
                  rotate_left
                  ·intro w'; go_simp; (with_reducible rfl)
                  rotate_left
                  ·simp only [Act.put, List.setIfInBounds_toArray, List.set_cons_zero, List.set_cons_succ, i64_w, i32_w]; rfl
                  refine pure_ (i := 14) (N := some 14) (v := ?_) (a' := ?_) #[true, true, true, true, true, true, true, true, true, true, true, true, true, true, true] rfl rfl (any_of HT_.out (by kernel_rfl)) (fun _ _ _ h => h) (Or.inl ⟨by rfl, ?_⟩) ?_ ?_
                  rotate_left
                  ·intro w'; go_simp; (with_reducible rfl)
                  rotate_left
                  ·simp only [Act.put, List.setIfInBounds_toArray, List.set_cons_zero, List.set_cons_succ, i64_w, i32_w]; rfl
                  refine done_ (done_of HT_.out (by kernel_rfl)) ?_
                  try go_wp2
                  go_meet
                  case rel => exact ⟨_, ((A427 ++ (rdOf ByteArray.empty y431 (ji43))) ++ C427), (by first | rfl | (simp; done) | (simp only [← hji8, ← hji12, ← hji43] <;> (first | rfl | simp)) | (simp [*]; done)), H', ⟨by first | omega | exact Nat.le_refl _⟩, ⟨by (with_reducible repeat (first | apply rA | apply rN | apply rD)); exact HO425.out⟩, ⟨by (with_reducible repeat (first | refine bN ?_ _ | refine bD ?_ | refine bA ?_ _)); exact BK426.out⟩, ⟨by repeat (first | (with_reducible first | exact HB.out | apply lA | apply lN | apply lD | refine below_set ?_ GE426.out) | exact HB.out)⟩⟩
                 ·rw [if_neg c49] at H; exact absurd H (by simp)
                ·rw [if_neg c46] at H; exact absurd H (by simp)
               ·rw [if_neg c45] at H; exact absurd H (by simp)
              ·rw [if_neg c44] at H; exact absurd H (by simp)
             ·rw [if_neg c40] at H; have c40b0 : ((Int.tmod a4 4) == 3) = false := beq_eq_false_iff_ne.mpr c40; have c40b1 : ((Int.tmod a4 4) != 3) = true := bne_iff_ne.mpr c40; have H' := aM H; clear H
              go_wp2
              go_meet
              case rel => exact ⟨_, ((A427 ++ (strOfNums y428)) ++ B427), (by first | rfl | (simp; done) | (simp only [← hji8, ← hji12, ← hji16] <;> (first | rfl | simp)) | (simp [*]; done)), H', ⟨by first | omega | exact Nat.le_refl _⟩, ⟨by (with_reducible repeat (first | apply rA | apply rN | apply rD)); exact HO425.out⟩, ⟨by (with_reducible repeat (first | refine bN ?_ _ | refine bD ?_ | refine bA ?_ _)); exact BK426.out⟩, ⟨by repeat (first | (with_reducible first | exact HB.out | apply lA | apply lN | apply lD | refine below_set ?_ GE426.out) | exact HB.out)⟩⟩
          case rest =>
           clear HC20; (try clear c1); (try clear p2); (try clear hcv2); (try clear c3); (try clear c4); (try clear p4); (try clear q4); (try clear hx4); (try clear qi4); (try clear c6); (try clear p6); (try clear c9); (try clear c9b0); (try clear c9b1); (try clear c10); (try clear c10b0); (try clear c10b1); (try clear c11); (try clear c11b0); (try clear c11b1); (try clear c13); (try clear c13b0); (try clear c13b1); (try clear c14); (try clear c14b0); (try clear c14b1); (try clear c15); (try clear c15b0); (try clear c15b1); (try clear c15b2); (try clear c17); (try clear c17b0); (try clear c17b1); (try clear c18); (try clear c18b0); (try clear c18b1); (try clear c19); (try clear c19b0); (try clear c19b1); (try clear c19b2); (try clear hcv29); (try clear c30); (try clear c30b0); (try clear c30b1); (try clear c31); (try clear c31b0); (try clear c32); (try clear c32b0); (try clear c33); (try clear c33b0); (try clear c34); (try clear c34b0); (try clear c35); (try clear c35b0); (try clear c35b1); (try clear c35b2); (try clear c37); (try clear c37b0); (try clear c37b1); (try clear c38); (try clear c38b0); (try clear c39); (try clear c39b0); (try clear c40); (try clear c40b0); (try clear c40b1); (try clear c41); (try clear c41b0); (try clear c42); (try clear c42b0); (try clear p43); (try clear q43); (try clear hx43); (try clear qi43); (try clear c44); (try clear c44b0); (try clear c45); (try clear c45b0); (try clear c46); (try clear c46b0); (try clear c46b1); (try clear c46b2); (try clear c47); (try clear c47b0); (try clear c48); (try clear c48b0); (try clear c49); (try clear c49b0); (try clear c49b1); (try clear c49b2); (try clear hcz23_0); (try clear hcz23_1); (try clear hcz23_2); (try clear hcz23_3); (try clear hcz23_4); (try clear hcz23_5); (try clear hfz23_0); (try clear hfz23_1); (try clear hfz23_2); (try clear hfz23_3); (try clear hfz23_4); (try clear hfz23_5); (try clear hx434_0); (try clear p434); (try clear q434); obtain ⟨kq, x14_19, rfl, HA, HJ19, HO_427005, BK426, HB⟩ := hcut; cases kq with
           | zero => exact absurd HA.out (by simp [lockagelaw06_HeadMade.j0])
           | succ kj19 =>
            have H := HA.out; clear HA; simp only [lockagelaw06_HeadMade.j0] at H; replace H := Option.bind_eq_some_iff.mp H; obtain ⟨t435, A540, H⟩ := H; (try dsimp only at H); have A54 := aM A540; clear A540; by_cases c55 : t435 = true
            ·subst c55; (have H1 : ((lockagelaw06_told.f kj19 t418 t419 t420 t421 t422 t423).bind fun t436 => (if t436 = true then ((lockagelaw06_same.f kj19 T427).bind fun t437 => (if t437 = true then ((lockagelaw06_same.f kj19 x14_19).bind fun t438 => (some t438)) else (none))) else (none))) = some r := by rw [if_pos rfl] at H; exact H); clear H; have H := H1; clear H1; replace H := Option.bind_eq_some_iff.mp H; obtain ⟨t436, A560, H⟩ := H; (try dsimp only at H); have A56 := aM A560; clear A560; by_cases c57 : t436 = true
             ·subst c57; (have H1 : ((lockagelaw06_same.f kj19 T427).bind fun t437 => (if t437 = true then ((lockagelaw06_same.f kj19 x14_19).bind fun t438 => (some t438)) else (none))) = some r := by rw [if_pos rfl] at H; exact H); clear H; have H := H1; clear H1; replace H := Option.bind_eq_some_iff.mp H; obtain ⟨t437, A580, H⟩ := H; replace H : (if t437 = true then ((lockagelaw06_same.f kj19 x14_19).bind fun t438 => (some t438)) else (none)) = some r := H; have A58 := aM A580; clear A580; by_cases c59 : t437 = true
              ·subst c59; (have H1 : ((lockagelaw06_same.f kj19 x14_19).bind fun t438 => (some t438)) = some r := by rw [if_pos rfl] at H; exact H); clear H; have H := H1; clear H1; replace H := Option.bind_eq_some_iff.mp H; obtain ⟨t438, A600, H⟩ := H; replace H : (some t438) = some r := H; have A60 := aM A600; clear A600; obtain rfl := Option.some.inj H
               go_wp2_with (first | ((with_reducible refine gate_callee (f := 8) rfl ?_); refine goesL_ (some 76) rfl rfl Tryz.func8 (by kernel_rfl) rfl #[] rfl (by (try simp only [List.map_toArray, List.map_cons, List.map_nil]); first | done | rfl | (simp only [List.length_drop, List.length_take]; rfl)) ?_; (with_reducible refine (lockagelaw06_awake.calls kj19  true _ ?side1 A54.out).mono ?_); (case side1 => exact glob_below HG_.out (by repeat (first | (with_reducible first | exact HB.out | apply lA | apply lN | apply lD | refine below_set ?_ GE426.out) | exact HB.out))); rintro e w61 ⟨rfl, hb⟩; refine ⟨_, rfl, ?_⟩; have n0_ := aM (Kd.R_below (by (with_reducible repeat (first | apply rA | apply rN | apply rD)); exact HO_427005.out) hb); have n1_ := aM (blk_below (g := gb426) (o := .cells #[.string t418, .string t419, .int .i64 t420, .string t421, .int .i64 t422, .slice Ao24 t423.length co24] 30 (0, 0)) (by (with_reducible repeat (first | refine bN ?_ _ | refine bD ?_ | refine bA ?_ _)); exact BK426.out) hb); have n2_ := aM (below_step (by repeat (first | (with_reducible first | exact HB.out | apply lA | apply lN | apply lD | refine below_set ?_ GE426.out) | exact HB.out)) hb); clear HO_427005 BK426 HB; have HO_427005 := n0_; have BK426 := n1_; have HB := n2_; clear n0_ n1_ n2_; (try clear hb); (try clear hb2); (try clear hk); (try clear hi); obtain ⟨hcz62_0, hcz62_1, hcz62_2, hcz62_3, hcz62_4, hcz62_5, hfz62_0, hfz62_1, hfz62_2, hfz62_3, hfz62_4, hfz62_5⟩ := cz6 BK426.out) | (go_at_call 12; (with_reducible refine (lockagelaw06_told.calls kj19 t418 t419 t420 t421 t422 _ _ t423 true _ ?side1 ?side2 ?side3 A56.out).mono ?_); (case side1 => repeat (first | exact (Kd.R_reads' HO_427005.out).2.2 | (with_reducible refine Kd.C_alloc ?_ _) | (with_reducible refine Kd.C_drewN ?_ _) | (with_reducible refine Kd.C_drew ?_))); (case side2 => exact (Kd.R_reads' HO_427005.out).2.1); (case side3 => exact glob_below HG_.out (by repeat (first | (with_reducible first | exact HB.out | apply lA | apply lN | apply lD | refine below_set ?_ GE426.out) | exact HB.out))); rintro e w63 ⟨rfl, hb⟩; have n0_ := aM (Kd.R_below (by (with_reducible repeat (first | apply rA | apply rN | apply rD)); exact HO_427005.out) hb); have n1_ := aM (blk_below (g := gb426) (o := .cells #[.string t418, .string t419, .int .i64 t420, .string t421, .int .i64 t422, .slice Ao24 t423.length co24] 30 (0, 0)) (by (with_reducible repeat (first | refine bN ?_ _ | refine bD ?_ | refine bA ?_ _)); exact BK426.out) hb); have n2_ := aM (below_step (by repeat (first | (with_reducible first | exact HB.out | apply lA | apply lN | apply lD | refine below_set ?_ GE426.out) | exact HB.out)) hb); clear HO_427005 BK426 HB; have HO_427005 := n0_; have BK426 := n1_; have HB := n2_; clear n0_ n1_ n2_; (try clear hb); (try clear hb2); (try clear hk); (try clear hi)) | (go_at_call 9; (with_reducible refine (lockagelaw06_same.calls kj19 T427 true _ ?side1 A58.out).mono ?_); (case side1 => exact glob_below HG_.out (by repeat (first | (with_reducible first | exact HB.out | apply lA | apply lN | apply lD | refine below_set ?_ GE426.out) | exact HB.out))); rintro e w64 ⟨rfl, hb⟩; have n0_ := aM (Kd.R_below (by (with_reducible repeat (first | apply rA | apply rN | apply rD)); exact HO_427005.out) hb); have n1_ := aM (blk_below (g := gb426) (o := .cells #[.string t418, .string t419, .int .i64 t420, .string t421, .int .i64 t422, .slice Ao24 t423.length co24] 30 (0, 0)) (by (with_reducible repeat (first | refine bN ?_ _ | refine bD ?_ | refine bA ?_ _)); exact BK426.out) hb); have n2_ := aM (below_step (by repeat (first | (with_reducible first | exact HB.out | apply lA | apply lN | apply lD | refine below_set ?_ GE426.out) | exact HB.out)) hb); clear HO_427005 BK426 HB; have HO_427005 := n0_; have BK426 := n1_; have HB := n2_; clear n0_ n1_ n2_; (try clear hb); (try clear hb2); (try clear hk); (try clear hi)) | (go_at_call 9; (with_reducible refine (lockagelaw06_same.calls kj19 x14_19 t438 _ ?side1 A60.out).mono ?_); (case side1 => exact glob_below HG_.out (by repeat (first | (with_reducible first | exact HB.out | apply lA | apply lN | apply lD | refine below_set ?_ GE426.out) | exact HB.out))); rintro e w65 ⟨rfl, hb⟩; have n0_ := aM (Kd.R_below (by (with_reducible repeat (first | apply rA | apply rN | apply rD)); exact HO_427005.out) hb); have n1_ := aM (blk_below (g := gb426) (o := .cells #[.string t418, .string t419, .int .i64 t420, .string t421, .int .i64 t422, .slice Ao24 t423.length co24] 30 (0, 0)) (by (with_reducible repeat (first | refine bN ?_ _ | refine bD ?_ | refine bA ?_ _)); exact BK426.out) hb); have n2_ := aM (below_step (by repeat (first | (with_reducible first | exact HB.out | apply lA | apply lN | apply lD | refine below_set ?_ GE426.out) | exact HB.out)) hb); clear HO_427005 BK426 HB; have HO_427005 := n0_; have BK426 := n1_; have HB := n2_; clear n0_ n1_ n2_; (try clear hb); (try clear hb2); (try clear hk); (try clear hi)))
               go_ret
               exact ⟨by first | rfl | (simp [errW_none, errW_some] <;> rfl) | (simp only [← hji8, ← hji12, ← hji16]; first | rfl | (simp [errW_none, errW_some] <;> rfl)) | (simp [*, errW_none, errW_some] <;> rfl), by repeat (first | (with_reducible first | exact HB.out | apply lA | apply lN | apply lD | refine below_set ?_ GE426.out) | exact HB.out)⟩
              ·replace c59 := Bool.eq_false_iff.mpr c59; subst c59; (have H1 : (none) = some r := by rw [if_neg (show ¬ (false = true) by decide)] at H; exact H); clear H; have H := H1; clear H1; exact absurd H (by simp)
             ·replace c57 := Bool.eq_false_iff.mpr c57; subst c57; (have H1 : (none) = some r := by rw [if_neg (show ¬ (false = true) by decide)] at H; exact H); clear H; have H := H1; clear H1; exact absurd H (by simp)
            ·replace c55 := Bool.eq_false_iff.mpr c55; subst c55; (have H1 : (none) = some r := by rw [if_neg (show ¬ (false = true) by decide)] at H; exact H); clear H; have H := H1; clear H1; exact absurd H (by simp)
         ·rw [if_neg c19] at H; exact absurd H (by simp)
        ·rw [if_neg c18] at H; exact absurd H (by simp)
       ·rw [if_neg c17] at H; exact absurd H (by simp)
      ·rw [if_neg c15] at H; exact absurd H (by simp)
     ·rw [if_neg c14] at H; exact absurd H (by simp)
    ·rw [if_neg c13] at H; exact absurd H (by simp)
  ·rw [if_neg c10] at H; exact absurd H (by simp)
 ·rw [if_neg c9] at H; exact absurd H (by simp)

def lockagelaw06_HeadMade.Pure : Prop := ∀ (l0 : List Int) (a1 : Bool) (a2 : Int) (a3 : Int) (a4 : Int), l0.length ≤ maxLen → l0.length * 1 ≤ 140737488351232 → (∀ x ∈ l0, (Lit.int .u8 x).wf = true) → (Lit.int .u8 a2).wf = true → (Lit.int .u8 a3).wf = true → (Lit.int .u8 a4).wf = true → ∃ k, lockagelaw06_HeadMade.f k l0 a1 a2 a3 a4 = some true

end Go.Proofs.YtemhokkfefidlaaGreatDoor.P
