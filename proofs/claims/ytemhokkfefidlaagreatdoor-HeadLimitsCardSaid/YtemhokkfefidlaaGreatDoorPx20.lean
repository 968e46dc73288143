/- Printed by a program of the session out of the translation: plain Lean functions, each with the contract that the Go function computes it. -/
import Derived.Test.YtemhokkfefidlaaGreatDoorHZ
import Derived.Test.YtemhokkfefidlaaGreatDoorPx0
import Derived.Test.YtemhokkfefidlaaGreatDoorPx7
import Derived.Test.YtemhokkfefidlaaGreatDoorPx14
import Derived.Test.YtemhokkfefidlaaGreatDoorPx16
import Derived.Test.YtemhokkfefidlaaGreatDoorPx18
import Derived.Test.YtemhokkfefidlaaGreatDoorHZB
namespace Go.Proofs.YtemhokkfefidlaaGreatDoor.P
open Go.RowKit Go.Proofs.YtemhokkfefidlaaGreatDoorW.PrintWords Go.Proofs.YtemhokkfefidlaaGreatDoorW.PrintLast Go.Proofs.YtemhokkfefidlaaGreatDoorW.PrintMore
attribute [local go_sem] max2_int min2_int max_two min_two max_three min_three max_four min_four   -- for this text's walks alone
set_option linter.unusedVariables false
set_option linter.unusedSimpArgs false

mutual
def lockagelaw06_HeadLimits.j5 : Nat → Int → ByteArray → ByteArray → Int → ByteArray → Int → List (S37) → Option (Bool)
 | 0, _, _, _, _, _, _, _ => none
 | k + 1, x2, x440000, x440001, x440002, x440003, x440004, x440005 => (lockageref06_Text.f k x440000 x440001 x440002 x440003 x440004 x440005 false).bind fun t446 => ((lockagelaw06_awake.f k).bind fun t447 => (if t447 = true then ((lockagelaw06_told.f k x440000 x440001 x440002 x440003 x440004 x440005).bind fun t448 => (if t448 = true then (if 0 ≤ (wrap64 ((t446.size : Int) - 4)) then (if (wrap64 ((t446.size : Int) - 4)) ≤ (t446.size : Int) then ((lockagelaw06_same.f k (t446.extract 0 ((wrap64 ((t446.size : Int) - 4)) : Int).toNat)).bind fun t449 => (if t449 = true then (if 0 ≤ (mx 0 (wrap64 ((wrap64 ((t446.size : Int) - 4)) - (Int.tmod (wrap64 (x2)) 4)))) then (if (mx 0 (wrap64 ((wrap64 ((t446.size : Int) - 4)) - (Int.tmod (wrap64 (x2)) 4)))) ≤ (t446.size : Int) then ((lockagelaw06_same.f k (t446.extract 0 ((mx 0 (wrap64 ((wrap64 ((t446.size : Int) - 4)) - (Int.tmod (wrap64 (x2)) 4)))) : Int).toNat)).bind fun t450 => (some t450)) else (none)) else (none)) else (none))) else (none)) else (none)) else (none))) else (none)))
def lockagelaw06_HeadLimits.l0 : Nat → Int → Int → Int → ByteArray → ByteArray → Int → ByteArray → Int → List (S37) → Option (Bool)
 | 0, _, _, _, _, _, _, _, _, _ => none
 | k + 1, x0, x2, x8, x440000, x440001, x440002, x440003, x440004, x440005 => if x8 < (Int.tmod (wrap64 (x0)) 25) then (if x440005.length < 4398046511104 then (lockagelaw06_HeadLimits.l0 k x0 x2 (wrap64 (x8 + 1)) x440000 x440001 x440002 x440003 x440004 (x440005 ++ [(⟨(⟨#[65]⟩ : ByteArray), (⟨#[98]⟩ : ByteArray)⟩ : S37)])) else (none)) else (lockagelaw06_HeadLimits.j5 k x2 x440000 x440001 x440002 x440003 x440004 x440005)
def lockagelaw06_HeadLimits.l1 : Nat → Int → Int → Int → ByteArray → ByteArray → Int → ByteArray → Int → Option (Bool)
 | 0, _, _, _, _, _, _, _, _ => none
 | k + 1, x0, x2, x9, x440000, x440001, x440002, x440003, x440004 => if x9 < (wrap64 (194 + (Int.tmod (wrap64 (x0)) 10))) then (if x440001.size + 1 ≤ 9223372036854775807 then (lockagelaw06_HeadLimits.l1 k x0 x2 (wrap64 (x9 + 1)) x440000 (x440001 ++ (⟨#[97]⟩ : ByteArray)) x440002 x440003 x440004) else (none)) else (lockagelaw06_HeadLimits.j5 k x2 x440000 x440001 x440002 x440003 x440004 ([] : List (S37)))
def lockagelaw06_HeadLimits.l2 : Nat → Int → Int → ByteArray → Int → ByteArray → ByteArray → Int → ByteArray → Int → Option (Bool)
 | 0, _, _, _, _, _, _, _, _, _ => none
 | k + 1, x0, x2, x10, x11, x440000, x440001, x440002, x440003, x440004 => if x11 < 190 then (if x10.size + 1 ≤ 9223372036854775807 then (lockagelaw06_HeadLimits.l2 k x0 x2 (x10 ++ (⟨#[118]⟩ : ByteArray)) (wrap64 (x11 + 1)) x440000 x440001 x440002 x440003 x440004) else (none)) else (lockagelaw06_HeadLimits.l3 k x0 x2 x10 0 x440000 x440001 x440002 x440003 x440004 ([] : List (S37)))
def lockagelaw06_HeadLimits.l3 : Nat → Int → Int → ByteArray → Int → ByteArray → ByteArray → Int → ByteArray → Int → List (S37) → Option (Bool)
 | 0, _, _, _, _, _, _, _, _, _, _ => none
 | k + 1, x0, x2, x10, x12, x440000, x440001, x440002, x440003, x440004, x440005 => if x12 < 10 then (if x440005.length < 4398046511104 then (lockagelaw06_HeadLimits.l3 k x0 x2 x10 (wrap64 (x12 + 1)) x440000 x440001 x440002 x440003 x440004 (x440005 ++ [(⟨(⟨#[65, 98, 99, 100]⟩ : ByteArray), x10⟩ : S37)])) else (none)) else (lockagelaw06_HeadLimits.l4 k x0 x2 0 x440000 x440001 x440002 x440003 x440004 x440005)
def lockagelaw06_HeadLimits.l4 : Nat → Int → Int → Int → ByteArray → ByteArray → Int → ByteArray → Int → List (S37) → Option (Bool)
 | 0, _, _, _, _, _, _, _, _, _ => none
 | k + 1, x0, x2, x13, x440000, x440001, x440002, x440003, x440004, x440005 => if x13 < (Int.tmod (wrap64 (x0)) 40) then (if x440001.size + 1 ≤ 9223372036854775807 then (lockagelaw06_HeadLimits.l4 k x0 x2 (wrap64 (x13 + 1)) x440000 (x440001 ++ (⟨#[116]⟩ : ByteArray)) x440002 x440003 x440004 x440005) else (none)) else (lockagelaw06_HeadLimits.j5 k x2 x440000 x440001 x440002 x440003 x440004 x440005)
end
def lockagelaw06_HeadLimits.f (k : Nat) (a0 : Int) (a1 : Int) (a2 : Int) : Option (Bool) := if (Int.tmod a1 3) = 0 then (lockagelaw06_HeadLimits.l0 k a0 a2 0 (⟨#[71, 69, 84]⟩ : ByteArray) (⟨#[47]⟩ : ByteArray) 0 (⟨#[]⟩ : ByteArray) 1 ([] : List (S37))) else (if (Int.tmod a1 3) = 1 then (lockagelaw06_HeadLimits.l1 k a0 a2 0 (⟨#[71, 69, 84]⟩ : ByteArray) (⟨#[47]⟩ : ByteArray) 0 (⟨#[]⟩ : ByteArray) 1) else (lockagelaw06_HeadLimits.l2 k a0 a2 (⟨#[]⟩ : ByteArray) 0 (⟨#[71, 69, 84]⟩ : ByteArray) (⟨#[47]⟩ : ByteArray) 0 (⟨#[]⟩ : ByteArray) 1))
theorem lockagelaw06_HeadLimits.mono_l : ∀ k, (∀ y0 y1 y2 y3 y4 y5 y6, LeO (lockagelaw06_HeadLimits.j5 k y0 y1 y2 y3 y4 y5 y6) (lockagelaw06_HeadLimits.j5 (k + 1) y0 y1 y2 y3 y4 y5 y6)) ∧ (∀ y0 y1 y2 y3 y4 y5 y6 y7 y8, LeO (lockagelaw06_HeadLimits.l0 k y0 y1 y2 y3 y4 y5 y6 y7 y8) (lockagelaw06_HeadLimits.l0 (k + 1) y0 y1 y2 y3 y4 y5 y6 y7 y8)) ∧ (∀ y0 y1 y2 y3 y4 y5 y6 y7, LeO (lockagelaw06_HeadLimits.l1 k y0 y1 y2 y3 y4 y5 y6 y7) (lockagelaw06_HeadLimits.l1 (k + 1) y0 y1 y2 y3 y4 y5 y6 y7)) ∧ (∀ y0 y1 y2 y3 y4 y5 y6 y7 y8, LeO (lockagelaw06_HeadLimits.l2 k y0 y1 y2 y3 y4 y5 y6 y7 y8) (lockagelaw06_HeadLimits.l2 (k + 1) y0 y1 y2 y3 y4 y5 y6 y7 y8)) ∧ (∀ y0 y1 y2 y3 y4 y5 y6 y7 y8 y9, LeO (lockagelaw06_HeadLimits.l3 k y0 y1 y2 y3 y4 y5 y6 y7 y8 y9) (lockagelaw06_HeadLimits.l3 (k + 1) y0 y1 y2 y3 y4 y5 y6 y7 y8 y9)) ∧ (∀ y0 y1 y2 y3 y4 y5 y6 y7 y8, LeO (lockagelaw06_HeadLimits.l4 k y0 y1 y2 y3 y4 y5 y6 y7 y8) (lockagelaw06_HeadLimits.l4 (k + 1) y0 y1 y2 y3 y4 y5 y6 y7 y8))
 | 0 => ⟨fun _ _ _ _ _ _ _ r h => by simp [lockagelaw06_HeadLimits.j5] at h, fun _ _ _ _ _ _ _ _ _ r h => by simp [lockagelaw06_HeadLimits.l0] at h, fun _ _ _ _ _ _ _ _ r h => by simp [lockagelaw06_HeadLimits.l1] at h, fun _ _ _ _ _ _ _ _ _ r h => by simp [lockagelaw06_HeadLimits.l2] at h, fun _ _ _ _ _ _ _ _ _ _ r h => by simp [lockagelaw06_HeadLimits.l3] at h, fun _ _ _ _ _ _ _ _ _ r h => by simp [lockagelaw06_HeadLimits.l4] at h⟩
 | k + 1 => by
  obtain ⟨ih0, ih1, ih2, ih3, ih4, ih5⟩ := lockagelaw06_HeadLimits.mono_l k
  refine ⟨?_, ?_, ?_, ?_, ?_, ?_⟩
  ·intro y0 y1 y2 y3 y4 y5 y6
   unfold lockagelaw06_HeadLimits.j5
   repeat' first
   | (with_reducible exact ih0 _ _ _ _ _ _ _)
   | (with_reducible exact ih1 _ _ _ _ _ _ _ _ _)
   | (with_reducible exact ih2 _ _ _ _ _ _ _ _)
   | (with_reducible exact ih3 _ _ _ _ _ _ _ _ _)
   | (with_reducible exact ih4 _ _ _ _ _ _ _ _ _ _)
   | (with_reducible exact ih5 _ _ _ _ _ _ _ _ _)
   | (with_reducible exact lockagelaw06_awake.mono _)
   | (with_reducible exact lockagelaw06_same.mono _ _)
   | (with_reducible exact lockagelaw06_told.mono _ _ _ _ _ _ _)
   | (with_reducible exact lockageref06_Text.mono _ _ _ _ _ _ _ _)
   | (with_reducible exact LeO.refl _)
   | (with_reducible exact LeO.none _)
   | (with_reducible refine LeO.ite ?_ ?_)
   | (with_reducible refine LeO.bind ?_ (fun _ => ?_))
   | exact ih0 _ _ _ _ _ _ _
   | exact ih1 _ _ _ _ _ _ _ _ _
   | exact ih2 _ _ _ _ _ _ _ _
   | exact ih3 _ _ _ _ _ _ _ _ _
   | exact ih4 _ _ _ _ _ _ _ _ _ _
   | exact ih5 _ _ _ _ _ _ _ _ _
   | exact lockagelaw06_awake.mono _
   | exact lockagelaw06_same.mono _ _
   | exact lockagelaw06_told.mono _ _ _ _ _ _ _
   | exact lockageref06_Text.mono _ _ _ _ _ _ _ _
   | exact LeO.none _
   | refine LeO.ite ?_ ?_
   | refine LeO.bind ?_ (fun _ => ?_)
  ·intro y0 y1 y2 y3 y4 y5 y6 y7 y8
   unfold lockagelaw06_HeadLimits.l0
   repeat' first
   | (with_reducible exact ih0 _ _ _ _ _ _ _)
   | (with_reducible exact ih1 _ _ _ _ _ _ _ _ _)
   | (with_reducible exact ih2 _ _ _ _ _ _ _ _)
   | (with_reducible exact ih3 _ _ _ _ _ _ _ _ _)
   | (with_reducible exact ih4 _ _ _ _ _ _ _ _ _ _)
   | (with_reducible exact ih5 _ _ _ _ _ _ _ _ _)
   | (with_reducible exact lockagelaw06_awake.mono _)
   | (with_reducible exact lockagelaw06_same.mono _ _)
   | (with_reducible exact lockagelaw06_told.mono _ _ _ _ _ _ _)
   | (with_reducible exact lockageref06_Text.mono _ _ _ _ _ _ _ _)
   | (with_reducible exact LeO.refl _)
   | (with_reducible exact LeO.none _)
   | (with_reducible refine LeO.ite ?_ ?_)
   | (with_reducible refine LeO.bind ?_ (fun _ => ?_))
   | exact ih0 _ _ _ _ _ _ _
   | exact ih1 _ _ _ _ _ _ _ _ _
   | exact ih2 _ _ _ _ _ _ _ _
   | exact ih3 _ _ _ _ _ _ _ _ _
   | exact ih4 _ _ _ _ _ _ _ _ _ _
   | exact ih5 _ _ _ _ _ _ _ _ _
   | exact lockagelaw06_awake.mono _
   | exact lockagelaw06_same.mono _ _
   | exact lockagelaw06_told.mono _ _ _ _ _ _ _
   | exact lockageref06_Text.mono _ _ _ _ _ _ _ _
   | exact LeO.none _
   | refine LeO.ite ?_ ?_
   | refine LeO.bind ?_ (fun _ => ?_)
  ·intro y0 y1 y2 y3 y4 y5 y6 y7
   unfold lockagelaw06_HeadLimits.l1
   repeat' first
   | (with_reducible exact ih0 _ _ _ _ _ _ _)
   | (with_reducible exact ih1 _ _ _ _ _ _ _ _ _)
   | (with_reducible exact ih2 _ _ _ _ _ _ _ _)
   | (with_reducible exact ih3 _ _ _ _ _ _ _ _ _)
   | (with_reducible exact ih4 _ _ _ _ _ _ _ _ _ _)
   | (with_reducible exact ih5 _ _ _ _ _ _ _ _ _)
   | (with_reducible exact lockagelaw06_awake.mono _)
   | (with_reducible exact lockagelaw06_same.mono _ _)
   | (with_reducible exact lockagelaw06_told.mono _ _ _ _ _ _ _)
   | (with_reducible exact lockageref06_Text.mono _ _ _ _ _ _ _ _)
   | (with_reducible exact LeO.refl _)
   | (with_reducible exact LeO.none _)
   | (with_reducible refine LeO.ite ?_ ?_)
   | (with_reducible refine LeO.bind ?_ (fun _ => ?_))
   | exact ih0 _ _ _ _ _ _ _
   | exact ih1 _ _ _ _ _ _ _ _ _
   | exact ih2 _ _ _ _ _ _ _ _
   | exact ih3 _ _ _ _ _ _ _ _ _
   | exact ih4 _ _ _ _ _ _ _ _ _ _
   | exact ih5 _ _ _ _ _ _ _ _ _
   | exact lockagelaw06_awake.mono _
   | exact lockagelaw06_same.mono _ _
   | exact lockagelaw06_told.mono _ _ _ _ _ _ _
   | exact lockageref06_Text.mono _ _ _ _ _ _ _ _
   | exact LeO.none _
   | refine LeO.ite ?_ ?_
   | refine LeO.bind ?_ (fun _ => ?_)
  ·intro y0 y1 y2 y3 y4 y5 y6 y7 y8
   unfold lockagelaw06_HeadLimits.l2
   repeat' first
   | (with_reducible exact ih0 _ _ _ _ _ _ _)
   | (with_reducible exact ih1 _ _ _ _ _ _ _ _ _)
   | (with_reducible exact ih2 _ _ _ _ _ _ _ _)
   | (with_reducible exact ih3 _ _ _ _ _ _ _ _ _)
   | (with_reducible exact ih4 _ _ _ _ _ _ _ _ _ _)
   | (with_reducible exact ih5 _ _ _ _ _ _ _ _ _)
   | (with_reducible exact lockagelaw06_awake.mono _)
   | (with_reducible exact lockagelaw06_same.mono _ _)
   | (with_reducible exact lockagelaw06_told.mono _ _ _ _ _ _ _)
   | (with_reducible exact lockageref06_Text.mono _ _ _ _ _ _ _ _)
   | (with_reducible exact LeO.refl _)
   | (with_reducible exact LeO.none _)
   | (with_reducible refine LeO.ite ?_ ?_)
   | (with_reducible refine LeO.bind ?_ (fun _ => ?_))
   | exact ih0 _ _ _ _ _ _ _
   | exact ih1 _ _ _ _ _ _ _ _ _
   | exact ih2 _ _ _ _ _ _ _ _
   | exact ih3 _ _ _ _ _ _ _ _ _
   | exact ih4 _ _ _ _ _ _ _ _ _ _
   | exact ih5 _ _ _ _ _ _ _ _ _
   | exact lockagelaw06_awake.mono _
   | exact lockagelaw06_same.mono _ _
   | exact lockagelaw06_told.mono _ _ _ _ _ _ _
   | exact lockageref06_Text.mono _ _ _ _ _ _ _ _
   | exact LeO.none _
   | refine LeO.ite ?_ ?_
   | refine LeO.bind ?_ (fun _ => ?_)
  ·intro y0 y1 y2 y3 y4 y5 y6 y7 y8 y9
   unfold lockagelaw06_HeadLimits.l3
   repeat' first
   | (with_reducible exact ih0 _ _ _ _ _ _ _)
   | (with_reducible exact ih1 _ _ _ _ _ _ _ _ _)
   | (with_reducible exact ih2 _ _ _ _ _ _ _ _)
   | (with_reducible exact ih3 _ _ _ _ _ _ _ _ _)
   | (with_reducible exact ih4 _ _ _ _ _ _ _ _ _ _)
   | (with_reducible exact ih5 _ _ _ _ _ _ _ _ _)
   | (with_reducible exact lockagelaw06_awake.mono _)
   | (with_reducible exact lockagelaw06_same.mono _ _)
   | (with_reducible exact lockagelaw06_told.mono _ _ _ _ _ _ _)
   | (with_reducible exact lockageref06_Text.mono _ _ _ _ _ _ _ _)
   | (with_reducible exact LeO.refl _)
   | (with_reducible exact LeO.none _)
   | (with_reducible refine LeO.ite ?_ ?_)
   | (with_reducible refine LeO.bind ?_ (fun _ => ?_))
   | exact ih0 _ _ _ _ _ _ _
   | exact ih1 _ _ _ _ _ _ _ _ _
   | exact ih2 _ _ _ _ _ _ _ _
   | exact ih3 _ _ _ _ _ _ _ _ _
   | exact ih4 _ _ _ _ _ _ _ _ _ _
   | exact ih5 _ _ _ _ _ _ _ _ _
   | exact lockagelaw06_awake.mono _
   | exact lockagelaw06_same.mono _ _
   | exact lockagelaw06_told.mono _ _ _ _ _ _ _
   | exact lockageref06_Text.mono _ _ _ _ _ _ _ _
   | exact LeO.none _
   | refine LeO.ite ?_ ?_
   | refine LeO.bind ?_ (fun _ => ?_)
  ·intro y0 y1 y2 y3 y4 y5 y6 y7 y8
   unfold lockagelaw06_HeadLimits.l4
   repeat' first
   | (with_reducible exact ih0 _ _ _ _ _ _ _)
   | (with_reducible exact ih1 _ _ _ _ _ _ _ _ _)
   | (with_reducible exact ih2 _ _ _ _ _ _ _ _)
   | (with_reducible exact ih3 _ _ _ _ _ _ _ _ _)
   | (with_reducible exact ih4 _ _ _ _ _ _ _ _ _ _)
   | (with_reducible exact ih5 _ _ _ _ _ _ _ _ _)
   | (with_reducible exact lockagelaw06_awake.mono _)
   | (with_reducible exact lockagelaw06_same.mono _ _)
   | (with_reducible exact lockagelaw06_told.mono _ _ _ _ _ _ _)
   | (with_reducible exact lockageref06_Text.mono _ _ _ _ _ _ _ _)
   | (with_reducible exact LeO.refl _)
   | (with_reducible exact LeO.none _)
   | (with_reducible refine LeO.ite ?_ ?_)
   | (with_reducible refine LeO.bind ?_ (fun _ => ?_))
   | exact ih0 _ _ _ _ _ _ _
   | exact ih1 _ _ _ _ _ _ _ _ _
   | exact ih2 _ _ _ _ _ _ _ _
   | exact ih3 _ _ _ _ _ _ _ _ _
   | exact ih4 _ _ _ _ _ _ _ _ _ _
   | exact ih5 _ _ _ _ _ _ _ _ _
   | exact lockagelaw06_awake.mono _
   | exact lockagelaw06_same.mono _ _
   | exact lockagelaw06_told.mono _ _ _ _ _ _ _
   | exact lockageref06_Text.mono _ _ _ _ _ _ _ _
   | exact LeO.none _
   | refine LeO.ite ?_ ?_
   | refine LeO.bind ?_ (fun _ => ?_)
theorem lockagelaw06_HeadLimits.mono : ∀ a0 a1 a2 k, LeO (lockagelaw06_HeadLimits.f k a0 a1 a2) (lockagelaw06_HeadLimits.f (k + 1) a0 a1 a2) := by
 intro a0 a1 a2 k
 obtain ⟨ih0, ih1, ih2, ih3, ih4, ih5⟩ := lockagelaw06_HeadLimits.mono_l k
 unfold lockagelaw06_HeadLimits.f
 repeat' first
   | (with_reducible exact ih0 _ _ _ _ _ _ _)
   | (with_reducible exact ih1 _ _ _ _ _ _ _ _ _)
   | (with_reducible exact ih2 _ _ _ _ _ _ _ _)
   | (with_reducible exact ih3 _ _ _ _ _ _ _ _ _)
   | (with_reducible exact ih4 _ _ _ _ _ _ _ _ _ _)
   | (with_reducible exact ih5 _ _ _ _ _ _ _ _ _)
   | (with_reducible exact lockagelaw06_awake.mono _)
   | (with_reducible exact lockagelaw06_same.mono _ _)
   | (with_reducible exact lockagelaw06_told.mono _ _ _ _ _ _ _)
   | (with_reducible exact lockageref06_Text.mono _ _ _ _ _ _ _ _)
   | (with_reducible exact LeO.refl _)
   | (with_reducible exact LeO.none _)
   | (with_reducible refine LeO.ite ?_ ?_)
   | (with_reducible refine LeO.bind ?_ (fun _ => ?_))
   | exact ih0 _ _ _ _ _ _ _
   | exact ih1 _ _ _ _ _ _ _ _ _
   | exact ih2 _ _ _ _ _ _ _ _
   | exact ih3 _ _ _ _ _ _ _ _ _
   | exact ih4 _ _ _ _ _ _ _ _ _ _
   | exact ih5 _ _ _ _ _ _ _ _ _
   | exact lockagelaw06_awake.mono _
   | exact lockagelaw06_same.mono _ _
   | exact lockagelaw06_told.mono _ _ _ _ _ _ _
   | exact lockageref06_Text.mono _ _ _ _ _ _ _ _
   | exact LeO.none _
   | refine LeO.ite ?_ ?_
   | refine LeO.bind ?_ (fun _ => ?_)
set_option maxHeartbeats 8000000 in
set_option maxRecDepth 100000 in
theorem lockagelaw06_HeadLimits.calls (k : Nat) (a0 : Int) (a1 : Int) (a2 : Int) (r : Bool) (w : World) (hG_ : H.GlobOk w) (h : lockagelaw06_HeadLimits.f k a0 a1 a2 = some r) :
  Calls Tryz.prog 7 #[.int .u8 a0, .int .u8 a1, .int .u8 a2] w fun e w' => e = .returned (.bool r) ∧ Below w.heap.size w w' := by
 have HG_ := aM hG_
 clear hG_
 have hu30 := Tryz.underlying30
 have hu37 := Tryz.underlying37
 have HB := aM (Below.refl w.heap.size w)
 have H : (if (Int.tmod a1 3) = 0 then (lockagelaw06_HeadLimits.l0 k a0 a2 0 (⟨#[71, 69, 84]⟩ : ByteArray) (⟨#[47]⟩ : ByteArray) 0 (⟨#[]⟩ : ByteArray) 1 ([] : List (S37))) else (if (Int.tmod a1 3) = 1 then (lockagelaw06_HeadLimits.l1 k a0 a2 0 (⟨#[71, 69, 84]⟩ : ByteArray) (⟨#[47]⟩ : ByteArray) 0 (⟨#[]⟩ : ByteArray) 1) else (lockagelaw06_HeadLimits.l2 k a0 a2 (⟨#[]⟩ : ByteArray) 0 (⟨#[71, 69, 84]⟩ : ByteArray) (⟨#[47]⟩ : ByteArray) 0 (⟨#[]⟩ : ByteArray) 1))) = some r := h
 clear h
 have HC4 := aM H
 clear H
 go_enter Tryz.func7, Tryz.ntmps7
 go_upto_block 0 with (first | ((with_reducible refine gate_dst (N := 7) rfl ?_); (try (refine gate_guard (by rfl) ?_; dsimp only)); refine box_event ?hg (N := 7) ?hd (cs := #[.string (⟨#[]⟩ : ByteArray), .string (⟨#[]⟩ : ByteArray), .int .i64 0, .string (⟨#[]⟩ : ByteArray), .int .i64 0, .slice none 0 0]) (t := 30) ?hr ?_; (case hd => rfl); (case hg => rfl); (case hr => first | (go_simp; done) | (go_simp; rfl)); intro gb439 hg w5 hbox hb; have n0_ := aM (below_step (by repeat (first | (with_reducible first | exact HB.out | apply lA | apply lN | apply lD) | exact HB.out)) hb); have n1_ := aM (hbox); have n2_ := aM ((by rw [hg]; exact (below_size (by repeat (first | (with_reducible first | exact HB.out | apply lA | apply lN | apply lD) | exact HB.out))) : w.heap.size ≤ gb439)); have n3_ := n2_; clear HB; have HB := n0_; have BK439 := n1_; have GW439 := n2_; have GE439 := n3_; clear n0_ n1_ n2_ n3_; clear hb hbox hg; obtain ⟨hcz6_0, hcz6_1, hcz6_2, hcz6_3, hcz6_4, hcz6_5, hfz6_0, hfz6_1, hfz6_2, hfz6_3, hfz6_4, hfz6_5⟩ := cz6 BK439.out))
 (try simp only [Act.put, List.setIfInBounds_toArray, List.set_cons_zero, List.set_cons_succ])
 go_cut [] (fun wc => ∃ (kq : Nat) (x440001_3 : ByteArray) (x440005_3 : List (S37)) (u440005 : Value), Aside0 (lockagelaw06_HeadLimits.j5 kq a2 (⟨#[71, 69, 84]⟩ : ByteArray) x440001_3 0 (⟨#[]⟩ : ByteArray) 1 x440005_3 = some r) ∧ Aside0 (kq ≤ k) ∧ Aside0 (Kd.R k37 37 wc w.heap.size (fun _ => True) u440005 x440005_3) ∧ Aside0 (wc.heap[gb439]? = some (.cells #[.string (⟨#[71, 69, 84]⟩ : ByteArray), .string x440001_3, .int .i64 0, .string (⟨#[]⟩ : ByteArray), .int .i64 1, u440005] 30 (0, 0))) ∧ Aside0 (Below w.heap.size w wc))
 case first =>
  have H := HC4.out
  clear HC4
  by_cases c7 : (Int.tmod a1 3) = 0
  ·rw [if_pos c7] at H
   have c7b0 : ((Int.tmod a1 3) == 0) = true := beq_iff_eq.mpr c7
   have c7b1 : ((Int.tmod a1 3) != 0) = false := bne_eq_false_iff_eq.mpr c7
   clear c7
   (first | rw [c7b0] | (simp only [i64_w, i32_w]; rw [c7b0]) | skip)
   have H' := aM H
   clear H
   go_wp2
   go_loopg [8] k (fun kq v8 w' => ∃ (x8_1 : Int) (x440005_1 : List (S37)) (u440005 : Value), v8 = .int .i64 x8_1 ∧ Aside0 (lockagelaw06_HeadLimits.l0 kq a0 a2 x8_1 (⟨#[71, 69, 84]⟩ : ByteArray) (⟨#[47]⟩ : ByteArray) 0 (⟨#[]⟩ : ByteArray) 1 x440005_1 = some r) ∧ Aside0 (kq ≤ k) ∧ Aside0 (Kd.R k37 37 w' w.heap.size (fun _ => True) u440005 x440005_1) ∧ Aside0 (w'.heap[gb439]? = some (.cells #[.string (⟨#[71, 69, 84]⟩ : ByteArray), .string (⟨#[47]⟩ : ByteArray), .int .i64 0, .string (⟨#[]⟩ : ByteArray), .int .i64 1, u440005] 30 (0, 0))) ∧ Aside0 (Below w.heap.size w w'))
   case atStart => exact ⟨(0), (([] : List (S37))), (.slice none 0 0), (by first | rfl | (simp; done) | (simp [*]; done)), H', ⟨Nat.le_refl _⟩, ⟨by first | exact Kd.R_nil _ _ _ _ _ | exact Kd.N_nil _ _ _ _ _ | exact Kd.V_nil _ _ _ _ _ | exact Kd.Q_nil _ _ _ _ _ | exact Kd.S_nil _ _ _ _ _⟩, ⟨by (repeat (first | (with_reducible first | refine bN ?_ _ | refine bD ?_ | refine bA ?_ _ | apply p6_5 | apply p6_4 | apply p6_3 | apply p6_2 | apply p6_1 | apply p6_0))); exact BK439.out⟩, ⟨by repeat (first | (with_reducible first | exact HB.out | apply lA | apply lN | apply lD | refine below_set ?_ GE439.out) | exact HB.out)⟩⟩
   case round =>
    clear H'
    try clear p2
    try clear c7
    try clear c7b0
    try clear c7b1
    try clear hcz6_0
    try clear hcz6_1
    try clear hcz6_2
    try clear hcz6_3
    try clear hcz6_4
    try clear hcz6_5
    try clear hfz6_0
    try clear hfz6_1
    try clear hfz6_2
    try clear hfz6_3
    try clear hfz6_4
    try clear hfz6_5
    obtain ⟨x8_1, x440005_1, u440005, rfl, HA, HK1, HO_440005, BK439, HB⟩ := hrel
    cases gk with
    | zero => exact absurd HA.out (by simp [lockagelaw06_HeadLimits.l0])
    | succ k1 =>
     have H := HA.out
     clear HA
     simp only [lockagelaw06_HeadLimits.l0] at H
     by_cases c8 : x8_1 < (Int.tmod (wrap64 (a0)) 25)
     ·rw [if_pos c8] at H
      have c8b0 : decide (x8_1 < (Int.tmod (wrap64 (a0)) 25)) = true := decide_eq_true c8
      clear c8
      by_cases c9 : x440005_1.length < 4398046511104
      ·rw [if_pos c9] at H
       have LMc9 := aM c9
       clear c9
       obtain ⟨y440, hy440⟩ : ∃ y_ : List (S37), y_ = (x440005_1 ++ [(⟨(⟨#[65]⟩ : ByteArray), (⟨#[98]⟩ : ByteArray)⟩ : S37)]) := ⟨_, rfl⟩
       replace H : (lockagelaw06_HeadLimits.l0 k1 a0 a2 (wrap64 (x8_1 + 1)) (⟨#[71, 69, 84]⟩ : ByteArray) (⟨#[47]⟩ : ByteArray) 0 (⟨#[]⟩ : ByteArray) 1 y440) = some r := by first | (rw [hy440]; with_reducible exact H) | (have H2_ := (Option.bind_some _ _).symm.trans H; rw [hy440]; with_reducible exact H2_) | (have H2_ := (Option.bind_some _ _).symm.trans H; with_reducible exact H2_) | with_reducible exact H | (rw [hy440]; exact H) | exact H
       have Ny440 := aM hy440
       clear hy440
       have H' := aM H
       clear H
       obtain ⟨hcz10_0, hcz10_1, hcz10_2, hcz10_3, hcz10_4, hcz10_5, hfz10_0, hfz10_1, hfz10_2, hfz10_3, hfz10_4, hfz10_5⟩ := cz6 BK439.out
       go_wp2_with (first | ((with_reducible refine gate_builtin (b := .append) (xs := #[.tmp 56, .tmp 58]) rfl ?_); (try (refine gate_guard (by rfl) ?_; dsimp only)); at_builtin; refine Kd.R_append k37 (w0 := w) w.heap.size rfl (.tmp 56) (.tmp 58) 28 37 (.agg #[(.string ⟨#[]⟩), (.string ⟨#[]⟩)]) 32 rfl Tryz.underlying28 info37 rfl (by decide) (by omega) u440005 x440005_1 (⟨(⟨#[65]⟩ : ByteArray), (⟨#[98]⟩ : ByteArray)⟩ : S37) [.string (⟨#[65]⟩ : ByteArray), .string (⟨#[98]⟩ : ByteArray)] (fun _ => True) (fun _ => False) rfl rfl ?aP (fun _ hk => hk.elim) ?aF ?aO ?aB ?aS ?aL ?_; (case aP => exact k37_mkM _ _ _ (⟨(⟨#[65]⟩ : ByteArray), (⟨#[98]⟩ : ByteArray)⟩ : S37)); (case aB => exact (by repeat (first | (with_reducible first | exact HB.out | apply lA | apply lN | apply lD | refine below_set ?_ GE439.out) | exact HB.out))); (case aF => exact (fun _ _ => trivial)); (case aO => exact (by (with_reducible repeat (first | apply rA | apply rN | apply rD)); exact HO_440005.out)); (case aS => exact (below_size (by repeat (first | (with_reducible first | exact HB.out | apply lA | apply lN | apply lD | refine below_set ?_ GE439.out) | exact HB.out)))); (case aL => have := LMc9.out; omega); intro v441 w11 ho hb hg hat; rw [← Ny440.out] at ho; have n0_ := aM (blk_grown (g := gb439) (o := .cells #[.string (⟨#[71, 69, 84]⟩ : ByteArray), .string (⟨#[47]⟩ : ByteArray), .int .i64 0, .string (⟨#[]⟩ : ByteArray), .int .i64 1, u440005] 30 (0, 0)) (by (with_reducible repeat (first | refine bN ?_ _ | refine bD ?_ | refine bA ?_ _)); exact BK439.out) hg (Kd.R_ne HO_440005.out BK439.out (by decide))); have n1_ := aM (hb); have n2_ := aM (ho); clear BK439 HB HO_440005; have BK439 := n0_; have HB := n1_; have HO442 := n2_; clear n0_ n1_ n2_; clear ho hb hg hat; obtain ⟨Ao12, co12, eo12⟩ := Kd.R_slice HO442.out; subst eo12; obtain ⟨hcz13_0, hcz13_1, hcz13_2, hcz13_3, hcz13_4, hcz13_5, hfz13_0, hfz13_1, hfz13_2, hfz13_3, hfz13_4, hfz13_5⟩ := cz6 BK439.out))
       go_roundg k1
       case measure => have := HK1.out; omega
       case rel => exact ⟨(wrap64 (x8_1 + 1)), (y440), (.slice Ao12 y440.length co12), (by first | rfl | (simp; done) | (simp [*]; done)), H', ⟨by have := HK1.out; omega⟩, ⟨by (with_reducible repeat (first | apply rA | apply rN | apply rD)); exact Kd.R_mono (Kd.R_far (p := ⟨gb439, 5, none⟩) (Kd.R_types HO442.out BK439.out (by decide)) (fun _ hk => hk.2) (.slice Ao12 y440.length co12)) (fun _ hk => trivial)⟩, ⟨by (with_reducible repeat (first | refine bN ?_ _ | refine bD ?_ | refine bA ?_ _)); refine blk_put (cs := #[.string (⟨#[71, 69, 84]⟩ : ByteArray), .string (⟨#[47]⟩ : ByteArray), .int .i64 0, .string (⟨#[]⟩ : ByteArray), .int .i64 1, u440005]) ?_ 5 _ rfl; (with_reducible repeat (first | refine bN ?_ _ | refine bD ?_ | refine bA ?_ _)); exact BK439.out⟩, ⟨by repeat (first | (with_reducible first | exact HB.out | apply lA | apply lN | apply lD | refine below_set ?_ GE439.out) | exact HB.out)⟩⟩
      ·rw [if_neg c9] at H
       exact absurd H (by simp)
     ·rw [if_neg c8] at H
      have c8b0 : decide (x8_1 < (Int.tmod (wrap64 (a0)) 25)) = false := decide_eq_false c8
      clear c8
      have H' := aM H
      clear H
      go_wp2
      go_meet
      case rel => exact ⟨_, ((⟨#[47]⟩ : ByteArray)), (x440005_1), (u440005), H', ⟨by have := HK1.out; first | omega | exact Nat.le_refl _⟩, ⟨by (with_reducible repeat (first | apply rA | apply rN | apply rD)); exact HO_440005.out⟩, ⟨by (with_reducible repeat (first | refine bN ?_ _ | refine bD ?_ | refine bA ?_ _)); exact BK439.out⟩, ⟨by repeat (first | (with_reducible first | exact HB.out | apply lA | apply lN | apply lD | refine below_set ?_ GE439.out) | exact HB.out)⟩⟩
  ·rw [if_neg c7] at H
   have c7b0 : ((Int.tmod a1 3) == 0) = false := beq_eq_false_iff_ne.mpr c7
   have c7b1 : ((Int.tmod a1 3) != 0) = true := bne_iff_ne.mpr c7
   (first | rw [c7b0] | (simp only [i64_w, i32_w]; rw [c7b0]) | skip)
   by_cases c14 : (Int.tmod a1 3) = 1
   ·rw [if_pos c14] at H
    have c14b0 : ((Int.tmod a1 3) == 1) = true := beq_iff_eq.mpr c14
    have c14b1 : ((Int.tmod a1 3) != 1) = false := bne_eq_false_iff_eq.mpr c14
    clear c14
    have H' := aM H
    clear H
    go_wp2
    go_loopg [9] k (fun kq v9 w' => ∃ (x9_1 : Int) (x440001_1 : ByteArray), v9 = .int .i64 x9_1 ∧ Aside0 (lockagelaw06_HeadLimits.l1 kq a0 a2 x9_1 (⟨#[71, 69, 84]⟩ : ByteArray) x440001_1 0 (⟨#[]⟩ : ByteArray) 1 = some r) ∧ Aside0 (kq ≤ k) ∧ Aside0 (w'.heap[gb439]? = some (.cells #[.string (⟨#[71, 69, 84]⟩ : ByteArray), .string x440001_1, .int .i64 0, .string (⟨#[]⟩ : ByteArray), .int .i64 1, (.slice none 0 0)] 30 (0, 0))) ∧ Aside0 (Below w.heap.size w w'))
    case atStart => exact ⟨(0), ((⟨#[47]⟩ : ByteArray)), (by first | rfl | (simp; done) | (simp [*]; done)), H', ⟨Nat.le_refl _⟩, ⟨by (repeat (first | (with_reducible first | refine bN ?_ _ | refine bD ?_ | refine bA ?_ _ | apply p6_5 | apply p6_4 | apply p6_3 | apply p6_2 | apply p6_1 | apply p6_0))); exact BK439.out⟩, ⟨by repeat (first | (with_reducible first | exact HB.out | apply lA | apply lN | apply lD | refine below_set ?_ GE439.out) | exact HB.out)⟩⟩
    case round =>
     clear H'
     try clear c1
     try clear p2
     try clear p6
     try clear c7
     try clear c7b0
     try clear c7b1
     try clear c8
     try clear c8b0
     try clear c9
     try clear c14
     try clear c14b0
     try clear c14b1
     try clear hcz10_0
     try clear hcz10_1
     try clear hcz10_2
     try clear hcz10_3
     try clear hcz10_4
     try clear hcz10_5
     try clear hcz13_0
     try clear hcz13_1
     try clear hcz13_2
     try clear hcz13_3
     try clear hcz13_4
     try clear hcz13_5
     try clear hcz6_0
     try clear hcz6_1
     try clear hcz6_2
     try clear hcz6_3
     try clear hcz6_4
     try clear hcz6_5
     try clear hfz10_0
     try clear hfz10_1
     try clear hfz10_2
     try clear hfz10_3
     try clear hfz10_4
     try clear hfz10_5
     try clear hfz13_0
     try clear hfz13_1
     try clear hfz13_2
     try clear hfz13_3
     try clear hfz13_4
     try clear hfz13_5
     try clear hfz6_0
     try clear hfz6_1
     try clear hfz6_2
     try clear hfz6_3
     try clear hfz6_4
     try clear hfz6_5
     try clear p2
     obtain ⟨x9_1, x440001_1, rfl, HA, HK1, BK439, HB⟩ := hrel
     cases gk with
     | zero => exact absurd HA.out (by simp [lockagelaw06_HeadLimits.l1])
     | succ k1 =>
      have H := HA.out
      clear HA
      simp only [lockagelaw06_HeadLimits.l1] at H
      by_cases c15 : x9_1 < (wrap64 (194 + (Int.tmod (wrap64 (a0)) 10)))
      ·rw [if_pos c15] at H
       have c15b0 : decide (x9_1 < (wrap64 (194 + (Int.tmod (wrap64 (a0)) 10)))) = true := decide_eq_true c15
       clear c15
       by_cases c16 : x440001_1.size + 1 ≤ 9223372036854775807
       ·rw [if_pos c16] at H
        have c16b0 := eq_true c16
        have c16b1 : decide (x440001_1.size + 1 ≤ 9223372036854775807) = true := decide_eq_true c16
        try have c16b2 : (9223372036854775807 < x440001_1.size + 1) = False := eq_false (Nat.not_lt.2 c16)
        have H' := aM H
        clear H
        obtain ⟨hcz17_0, hcz17_1, hcz17_2, hcz17_3, hcz17_4, hcz17_5, hfz17_0, hfz17_1, hfz17_2, hfz17_3, hfz17_4, hfz17_5⟩ := cz6 BK439.out
        go_wp2
        go_roundg k1
        case measure => have := HK1.out; omega
        case rel => exact ⟨(wrap64 (x9_1 + 1)), (x440001_1 ++ (⟨#[97]⟩ : ByteArray)), (by first | rfl | (simp; done) | (simp [*]; done)), H', ⟨by have := HK1.out; omega⟩, ⟨by (with_reducible repeat (first | refine bN ?_ _ | refine bD ?_ | refine bA ?_ _)); refine blk_put (cs := #[.string (⟨#[71, 69, 84]⟩ : ByteArray), .string x440001_1, .int .i64 0, .string (⟨#[]⟩ : ByteArray), .int .i64 1, .slice none 0 0]) ?_ 1 _ rfl; (with_reducible repeat (first | refine bN ?_ _ | refine bD ?_ | refine bA ?_ _)); exact BK439.out⟩, ⟨by repeat (first | (with_reducible first | exact HB.out | apply lA | apply lN | apply lD | refine below_set ?_ GE439.out) | exact HB.out)⟩⟩
       ·rw [if_neg c16] at H
        exact absurd H (by simp)
      ·rw [if_neg c15] at H
       have c15b0 : decide (x9_1 < (wrap64 (194 + (Int.tmod (wrap64 (a0)) 10)))) = false := decide_eq_false c15
       clear c15
       have H' := aM H
       clear H
       go_wp2
       go_meet
       case rel => exact ⟨_, (x440001_1), (([] : List (S37))), (.slice none 0 0), H', ⟨by have := HK1.out; first | omega | exact Nat.le_refl _⟩, ⟨by first | exact Kd.R_nil _ _ _ _ _ | exact Kd.N_nil _ _ _ _ _ | exact Kd.V_nil _ _ _ _ _ | exact Kd.Q_nil _ _ _ _ _ | exact Kd.S_nil _ _ _ _ _⟩, ⟨by (with_reducible repeat (first | refine bN ?_ _ | refine bD ?_ | refine bA ?_ _)); exact BK439.out⟩, ⟨by repeat (first | (with_reducible first | exact HB.out | apply lA | apply lN | apply lD | refine below_set ?_ GE439.out) | exact HB.out)⟩⟩
   ·rw [if_neg c14] at H
    have c14b0 : ((Int.tmod a1 3) == 1) = false := beq_eq_false_iff_ne.mpr c14
    have c14b1 : ((Int.tmod a1 3) != 1) = true := bne_iff_ne.mpr c14
    have H' := aM H
    clear H
    go_wp2
    go_loopg [10, 11] k (fun kq v10 v11 w' => ∃ (x10_1 : ByteArray) (x11_1 : Int), v10 = .string x10_1 ∧ v11 = .int .i64 x11_1 ∧ Aside0 (lockagelaw06_HeadLimits.l2 kq a0 a2 x10_1 x11_1 (⟨#[71, 69, 84]⟩ : ByteArray) (⟨#[47]⟩ : ByteArray) 0 (⟨#[]⟩ : ByteArray) 1 = some r) ∧ Aside0 (kq ≤ k) ∧ Aside0 (w'.heap[gb439]? = some (.cells #[.string (⟨#[71, 69, 84]⟩ : ByteArray), .string (⟨#[47]⟩ : ByteArray), .int .i64 0, .string (⟨#[]⟩ : ByteArray), .int .i64 1, (.slice none 0 0)] 30 (0, 0))) ∧ Aside0 (Below w.heap.size w w'))
    case atStart => exact ⟨((⟨#[]⟩ : ByteArray)), (0), (by first | rfl | (simp; done) | (simp [*]; done)), (by first | rfl | (simp; done) | (simp [*]; done)), H', ⟨Nat.le_refl _⟩, ⟨by (repeat (first | (with_reducible first | refine bN ?_ _ | refine bD ?_ | refine bA ?_ _ | apply p6_5 | apply p6_4 | apply p6_3 | apply p6_2 | apply p6_1 | apply p6_0))); exact BK439.out⟩, ⟨by repeat (first | (with_reducible first | exact HB.out | apply lA | apply lN | apply lD | refine below_set ?_ GE439.out) | exact HB.out)⟩⟩
    case round =>
     clear H'
     try clear c1
     try clear p2
     try clear p6
     try clear c7
     try clear c7b0
     try clear c7b1
     try clear c8
     try clear c8b0
     try clear c9
     try clear c14
     try clear c14b0
     try clear c14b1
     try clear c15
     try clear c15b0
     try clear c16
     try clear c16b0
     try clear c16b1
     try clear c16b2
     try clear hcz10_0
     try clear hcz10_1
     try clear hcz10_2
     try clear hcz10_3
     try clear hcz10_4
     try clear hcz10_5
     try clear hcz13_0
     try clear hcz13_1
     try clear hcz13_2
     try clear hcz13_3
     try clear hcz13_4
     try clear hcz13_5
     try clear hcz17_0
     try clear hcz17_1
     try clear hcz17_2
     try clear hcz17_3
     try clear hcz17_4
     try clear hcz17_5
     try clear hcz6_0
     try clear hcz6_1
     try clear hcz6_2
     try clear hcz6_3
     try clear hcz6_4
     try clear hcz6_5
     try clear hfz10_0
     try clear hfz10_1
     try clear hfz10_2
     try clear hfz10_3
     try clear hfz10_4
     try clear hfz10_5
     try clear hfz13_0
     try clear hfz13_1
     try clear hfz13_2
     try clear hfz13_3
     try clear hfz13_4
     try clear hfz13_5
     try clear hfz17_0
     try clear hfz17_1
     try clear hfz17_2
     try clear hfz17_3
     try clear hfz17_4
     try clear hfz17_5
     try clear hfz6_0
     try clear hfz6_1
     try clear hfz6_2
     try clear hfz6_3
     try clear hfz6_4
     try clear hfz6_5
     try clear p2
     try clear p6
     obtain ⟨x10_1, x11_1, rfl, rfl, HA, HK1, BK439, HB⟩ := hrel
     cases gk with
     | zero => exact absurd HA.out (by simp [lockagelaw06_HeadLimits.l2])
     | succ k1 =>
      have H := HA.out
      clear HA
      simp only [lockagelaw06_HeadLimits.l2] at H
      by_cases c18 : x11_1 < 190
      ·rw [if_pos c18] at H
       have c18b0 : decide (x11_1 < 190) = true := decide_eq_true c18
       clear c18
       by_cases c19 : x10_1.size + 1 ≤ 9223372036854775807
       ·rw [if_pos c19] at H
        have c19b0 := eq_true c19
        have c19b1 : decide (x10_1.size + 1 ≤ 9223372036854775807) = true := decide_eq_true c19
        try have c19b2 : (9223372036854775807 < x10_1.size + 1) = False := eq_false (Nat.not_lt.2 c19)
        have H' := aM H
        clear H
        go_wp2
        go_roundg k1
        case measure => have := HK1.out; omega
        case rel => exact ⟨(x10_1 ++ (⟨#[118]⟩ : ByteArray)), (wrap64 (x11_1 + 1)), (by first | rfl | (simp; done) | (simp [*]; done)), (by first | rfl | (simp; done) | (simp [*]; done)), H', ⟨by have := HK1.out; omega⟩, ⟨by (with_reducible repeat (first | refine bN ?_ _ | refine bD ?_ | refine bA ?_ _)); exact BK439.out⟩, ⟨by repeat (first | (with_reducible first | exact HB.out | apply lA | apply lN | apply lD | refine below_set ?_ GE439.out) | exact HB.out)⟩⟩
       ·rw [if_neg c19] at H
        exact absurd H (by simp)
      ·rw [if_neg c18] at H
       have c18b0 : decide (x11_1 < 190) = false := decide_eq_false c18
       clear c18
       have H' := aM H
       clear H
       go_wp2
       go_loopg [12] k1 (fun kq v12 w' => ∃ (x12_2 : Int) (x440005_2 : List (S37)) (u440005 : Value), v12 = .int .i64 x12_2 ∧ Aside0 (lockagelaw06_HeadLimits.l3 kq a0 a2 x10_1 x12_2 (⟨#[71, 69, 84]⟩ : ByteArray) (⟨#[47]⟩ : ByteArray) 0 (⟨#[]⟩ : ByteArray) 1 x440005_2 = some r) ∧ Aside0 (kq ≤ k1) ∧ Aside0 (Kd.R k37 37 w' w.heap.size (fun _ => True) u440005 x440005_2) ∧ Aside0 (w'.heap[gb439]? = some (.cells #[.string (⟨#[71, 69, 84]⟩ : ByteArray), .string (⟨#[47]⟩ : ByteArray), .int .i64 0, .string (⟨#[]⟩ : ByteArray), .int .i64 1, u440005] 30 (0, 0))) ∧ Aside0 (Below w.heap.size w w'))
       case atStart => exact ⟨(0), (([] : List (S37))), (.slice none 0 0), (by first | rfl | (simp; done) | (simp [*]; done)), H', ⟨Nat.le_refl _⟩, ⟨by first | exact Kd.R_nil _ _ _ _ _ | exact Kd.N_nil _ _ _ _ _ | exact Kd.V_nil _ _ _ _ _ | exact Kd.Q_nil _ _ _ _ _ | exact Kd.S_nil _ _ _ _ _⟩, ⟨by (with_reducible repeat (first | refine bN ?_ _ | refine bD ?_ | refine bA ?_ _)); exact BK439.out⟩, ⟨by repeat (first | (with_reducible first | exact HB.out | apply lA | apply lN | apply lD | refine below_set ?_ GE439.out) | exact HB.out)⟩⟩
       case round =>
        clear H'
        try clear c1
        try clear p2
        try clear p6
        try clear c7
        try clear c7b0
        try clear c7b1
        try clear c8
        try clear c8b0
        try clear c9
        try clear c14
        try clear c14b0
        try clear c14b1
        try clear c15
        try clear c15b0
        try clear c16
        try clear c16b0
        try clear c16b1
        try clear c16b2
        try clear c18
        try clear c18b0
        try clear c19
        try clear c19b0
        try clear c19b1
        try clear c19b2
        try clear hcz10_0
        try clear hcz10_1
        try clear hcz10_2
        try clear hcz10_3
        try clear hcz10_4
        try clear hcz10_5
        try clear hcz13_0
        try clear hcz13_1
        try clear hcz13_2
        try clear hcz13_3
        try clear hcz13_4
        try clear hcz13_5
        try clear hcz17_0
        try clear hcz17_1
        try clear hcz17_2
        try clear hcz17_3
        try clear hcz17_4
        try clear hcz17_5
        try clear hcz6_0
        try clear hcz6_1
        try clear hcz6_2
        try clear hcz6_3
        try clear hcz6_4
        try clear hcz6_5
        try clear hfz10_0
        try clear hfz10_1
        try clear hfz10_2
        try clear hfz10_3
        try clear hfz10_4
        try clear hfz10_5
        try clear hfz13_0
        try clear hfz13_1
        try clear hfz13_2
        try clear hfz13_3
        try clear hfz13_4
        try clear hfz13_5
        try clear hfz17_0
        try clear hfz17_1
        try clear hfz17_2
        try clear hfz17_3
        try clear hfz17_4
        try clear hfz17_5
        try clear hfz6_0
        try clear hfz6_1
        try clear hfz6_2
        try clear hfz6_3
        try clear hfz6_4
        try clear hfz6_5
        try clear p2
        try clear p6
        obtain ⟨x12_2, x440005_2, u440005, rfl, HA, HK2, HO_440005, BK439, HB⟩ := hrel
        cases gk with
        | zero => exact absurd HA.out (by simp [lockagelaw06_HeadLimits.l3])
        | succ k2 =>
         have H := HA.out
         clear HA
         simp only [lockagelaw06_HeadLimits.l3] at H
         by_cases c20 : x12_2 < 10
         ·rw [if_pos c20] at H
          have c20b0 : decide (x12_2 < 10) = true := decide_eq_true c20
          clear c20
          by_cases c21 : x440005_2.length < 4398046511104
          ·rw [if_pos c21] at H
           have LMc21 := aM c21
           clear c21
           obtain ⟨y443, hy443⟩ : ∃ y_ : List (S37), y_ = (x440005_2 ++ [(⟨(⟨#[65, 98, 99, 100]⟩ : ByteArray), x10_1⟩ : S37)]) := ⟨_, rfl⟩
           replace H : (lockagelaw06_HeadLimits.l3 k2 a0 a2 x10_1 (wrap64 (x12_2 + 1)) (⟨#[71, 69, 84]⟩ : ByteArray) (⟨#[47]⟩ : ByteArray) 0 (⟨#[]⟩ : ByteArray) 1 y443) = some r := by first | (rw [hy443]; with_reducible exact H) | (have H2_ := (Option.bind_some _ _).symm.trans H; rw [hy443]; with_reducible exact H2_) | (have H2_ := (Option.bind_some _ _).symm.trans H; with_reducible exact H2_) | with_reducible exact H | (rw [hy443]; exact H) | exact H
           have Ny443 := aM hy443
           clear hy443
           have H' := aM H
           clear H
           obtain ⟨hcz22_0, hcz22_1, hcz22_2, hcz22_3, hcz22_4, hcz22_5, hfz22_0, hfz22_1, hfz22_2, hfz22_3, hfz22_4, hfz22_5⟩ := cz6 BK439.out
           go_wp2_with (first | ((with_reducible refine gate_builtin (b := .append) (xs := #[.tmp 29, .tmp 32]) rfl ?_); (try (refine gate_guard (by rfl) ?_; dsimp only)); at_builtin; refine Kd.R_append k37 (w0 := w) w.heap.size rfl (.tmp 29) (.tmp 32) 28 37 (.agg #[(.string ⟨#[]⟩), (.string ⟨#[]⟩)]) 32 rfl Tryz.underlying28 info37 rfl (by decide) (by omega) u440005 x440005_2 (⟨(⟨#[65, 98, 99, 100]⟩ : ByteArray), x10_1⟩ : S37) [.string (⟨#[65, 98, 99, 100]⟩ : ByteArray), .string x10_1] (fun _ => True) (fun _ => False) rfl rfl ?aP (fun _ hk => hk.elim) ?aF ?aO ?aB ?aS ?aL ?_; (case aP => exact k37_mkM _ _ _ (⟨(⟨#[65, 98, 99, 100]⟩ : ByteArray), x10_1⟩ : S37)); (case aB => exact (by repeat (first | (with_reducible first | exact HB.out | apply lA | apply lN | apply lD | refine below_set ?_ GE439.out) | exact HB.out))); (case aF => exact (fun _ _ => trivial)); (case aO => exact (by (with_reducible repeat (first | apply rA | apply rN | apply rD)); exact HO_440005.out)); (case aS => exact (below_size (by repeat (first | (with_reducible first | exact HB.out | apply lA | apply lN | apply lD | refine below_set ?_ GE439.out) | exact HB.out)))); (case aL => have := LMc21.out; omega); intro v444 w23 ho hb hg hat; rw [← Ny443.out] at ho; have n0_ := aM (blk_grown (g := gb439) (o := .cells #[.string (⟨#[71, 69, 84]⟩ : ByteArray), .string (⟨#[47]⟩ : ByteArray), .int .i64 0, .string (⟨#[]⟩ : ByteArray), .int .i64 1, u440005] 30 (0, 0)) (by (with_reducible repeat (first | refine bN ?_ _ | refine bD ?_ | refine bA ?_ _)); exact BK439.out) hg (Kd.R_ne HO_440005.out BK439.out (by decide))); have n1_ := aM (hb); have n2_ := aM (ho); clear BK439 HB HO_440005; have BK439 := n0_; have HB := n1_; have HO445 := n2_; clear n0_ n1_ n2_; clear ho hb hg hat; obtain ⟨Ao24, co24, eo24⟩ := Kd.R_slice HO445.out; subst eo24; obtain ⟨hcz25_0, hcz25_1, hcz25_2, hcz25_3, hcz25_4, hcz25_5, hfz25_0, hfz25_1, hfz25_2, hfz25_3, hfz25_4, hfz25_5⟩ := cz6 BK439.out))
           go_roundg k2
           case measure => have := HK1.out; have := HK2.out; omega
           case rel => exact ⟨(wrap64 (x12_2 + 1)), (y443), (.slice Ao24 y443.length co24), (by first | rfl | (simp; done) | (simp [*]; done)), H', ⟨by have := HK1.out; have := HK2.out; omega⟩, ⟨by (with_reducible repeat (first | apply rA | apply rN | apply rD)); exact Kd.R_mono (Kd.R_far (p := ⟨gb439, 5, none⟩) (Kd.R_types HO445.out BK439.out (by decide)) (fun _ hk => hk.2) (.slice Ao24 y443.length co24)) (fun _ hk => trivial)⟩, ⟨by (with_reducible repeat (first | refine bN ?_ _ | refine bD ?_ | refine bA ?_ _)); refine blk_put (cs := #[.string (⟨#[71, 69, 84]⟩ : ByteArray), .string (⟨#[47]⟩ : ByteArray), .int .i64 0, .string (⟨#[]⟩ : ByteArray), .int .i64 1, u440005]) ?_ 5 _ rfl; (with_reducible repeat (first | refine bN ?_ _ | refine bD ?_ | refine bA ?_ _)); exact BK439.out⟩, ⟨by repeat (first | (with_reducible first | exact HB.out | apply lA | apply lN | apply lD | refine below_set ?_ GE439.out) | exact HB.out)⟩⟩
          ·rw [if_neg c21] at H
           exact absurd H (by simp)
         ·rw [if_neg c20] at H
          have c20b0 : decide (x12_2 < 10) = false := decide_eq_false c20
          clear c20
          have H' := aM H
          clear H
          go_wp2
          go_loopg [13] k2 (fun kq v13 w' => ∃ (x13_3 : Int) (x440001_3 : ByteArray), v13 = .int .i64 x13_3 ∧ Aside0 (lockagelaw06_HeadLimits.l4 kq a0 a2 x13_3 (⟨#[71, 69, 84]⟩ : ByteArray) x440001_3 0 (⟨#[]⟩ : ByteArray) 1 x440005_2 = some r) ∧ Aside0 (kq ≤ k2) ∧ Aside0 (Kd.R k37 37 w' w.heap.size (fun _ => True) u440005 x440005_2) ∧ Aside0 (w'.heap[gb439]? = some (.cells #[.string (⟨#[71, 69, 84]⟩ : ByteArray), .string x440001_3, .int .i64 0, .string (⟨#[]⟩ : ByteArray), .int .i64 1, u440005] 30 (0, 0))) ∧ Aside0 (Below w.heap.size w w'))
          case atStart => exact ⟨(0), ((⟨#[47]⟩ : ByteArray)), (by first | rfl | (simp; done) | (simp [*]; done)), H', ⟨Nat.le_refl _⟩, ⟨by (with_reducible repeat (first | apply rA | apply rN | apply rD)); exact HO_440005.out⟩, ⟨by (with_reducible repeat (first | refine bN ?_ _ | refine bD ?_ | refine bA ?_ _)); exact BK439.out⟩, ⟨by repeat (first | (with_reducible first | exact HB.out | apply lA | apply lN | apply lD | refine below_set ?_ GE439.out) | exact HB.out)⟩⟩
          case round =>
           clear H'
           try clear c1
           try clear c2
           try clear p2
           try clear p6
           try clear c7
           try clear c7b0
           try clear c7b1
           try clear c8
           try clear c8b0
           try clear c9
           try clear c14
           try clear c14b0
           try clear c14b1
           try clear c15
           try clear c15b0
           try clear c16
           try clear c16b0
           try clear c16b1
           try clear c16b2
           try clear c18
           try clear c18b0
           try clear c19
           try clear c19b0
           try clear c19b1
           try clear c19b2
           try clear c20
           try clear c20b0
           try clear c21
           try clear hcz10_0
           try clear hcz10_1
           try clear hcz10_2
           try clear hcz10_3
           try clear hcz10_4
           try clear hcz10_5
           try clear hcz13_0
           try clear hcz13_1
           try clear hcz13_2
           try clear hcz13_3
           try clear hcz13_4
           try clear hcz13_5
           try clear hcz17_0
           try clear hcz17_1
           try clear hcz17_2
           try clear hcz17_3
           try clear hcz17_4
           try clear hcz17_5
           try clear hcz22_0
           try clear hcz22_1
           try clear hcz22_2
           try clear hcz22_3
           try clear hcz22_4
           try clear hcz22_5
           try clear hcz25_0
           try clear hcz25_1
           try clear hcz25_2
           try clear hcz25_3
           try clear hcz25_4
           try clear hcz25_5
           try clear hcz6_0
           try clear hcz6_1
           try clear hcz6_2
           try clear hcz6_3
           try clear hcz6_4
           try clear hcz6_5
           try clear hfz10_0
           try clear hfz10_1
           try clear hfz10_2
           try clear hfz10_3
           try clear hfz10_4
           try clear hfz10_5
           try clear hfz13_0
           try clear hfz13_1
           try clear hfz13_2
           try clear hfz13_3
           try clear hfz13_4
           try clear hfz13_5
           try clear hfz17_0
           try clear hfz17_1
           try clear hfz17_2
           try clear hfz17_3
           try clear hfz17_4
           try clear hfz17_5
           try clear hfz22_0
           try clear hfz22_1
           try clear hfz22_2
           try clear hfz22_3
           try clear hfz22_4
           try clear hfz22_5
           try clear hfz25_0
           try clear hfz25_1
           try clear hfz25_2
           try clear hfz25_3
           try clear hfz25_4
           try clear hfz25_5
           try clear hfz6_0
           try clear hfz6_1
           try clear hfz6_2
           try clear hfz6_3
           try clear hfz6_4
           try clear hfz6_5
           try clear p2
           try clear p6
           obtain ⟨x13_3, x440001_3, rfl, HA, HK3, HO_440005, BK439, HB⟩ := hrel
           cases gk with
           | zero => exact absurd HA.out (by simp [lockagelaw06_HeadLimits.l4])
           | succ k3 =>
            have H := HA.out
            clear HA
            simp only [lockagelaw06_HeadLimits.l4] at H
            by_cases c26 : x13_3 < (Int.tmod (wrap64 (a0)) 40)
            ·rw [if_pos c26] at H
             have c26b0 : decide (x13_3 < (Int.tmod (wrap64 (a0)) 40)) = true := decide_eq_true c26
             clear c26
             by_cases c27 : x440001_3.size + 1 ≤ 9223372036854775807
             ·rw [if_pos c27] at H
              have c27b0 := eq_true c27
              have c27b1 : decide (x440001_3.size + 1 ≤ 9223372036854775807) = true := decide_eq_true c27
              try have c27b2 : (9223372036854775807 < x440001_3.size + 1) = False := eq_false (Nat.not_lt.2 c27)
              have H' := aM H
              clear H
              obtain ⟨hcz28_0, hcz28_1, hcz28_2, hcz28_3, hcz28_4, hcz28_5, hfz28_0, hfz28_1, hfz28_2, hfz28_3, hfz28_4, hfz28_5⟩ := cz6 BK439.out
              go_wp2
              go_roundg k3
              case measure => have := HK1.out; have := HK2.out; have := HK3.out; omega
              case rel => exact ⟨(wrap64 (x13_3 + 1)), (x440001_3 ++ (⟨#[116]⟩ : ByteArray)), (by first | rfl | (simp; done) | (simp [*]; done)), H', ⟨by have := HK1.out; have := HK2.out; have := HK3.out; omega⟩, ⟨by (with_reducible repeat (first | apply rA | apply rN | apply rD)); exact Kd.R_mono (Kd.R_far (p := ⟨gb439, 1, none⟩) (Kd.R_types HO_440005.out BK439.out (by decide)) (fun _ hk => hk.2) (.string (x440001_3 ++ (⟨#[116]⟩ : ByteArray)))) (fun _ hk => trivial)⟩, ⟨by (with_reducible repeat (first | refine bN ?_ _ | refine bD ?_ | refine bA ?_ _)); refine blk_put (cs := #[.string (⟨#[71, 69, 84]⟩ : ByteArray), .string x440001_3, .int .i64 0, .string (⟨#[]⟩ : ByteArray), .int .i64 1, u440005]) ?_ 1 _ rfl; (with_reducible repeat (first | refine bN ?_ _ | refine bD ?_ | refine bA ?_ _)); exact BK439.out⟩, ⟨by repeat (first | (with_reducible first | exact HB.out | apply lA | apply lN | apply lD | refine below_set ?_ GE439.out) | exact HB.out)⟩⟩
             ·rw [if_neg c27] at H
              exact absurd H (by simp)
            ·rw [if_neg c26] at H
             have c26b0 : decide (x13_3 < (Int.tmod (wrap64 (a0)) 40)) = false := decide_eq_false c26
             clear c26
             have H' := aM H
             clear H
             go_wp2
             go_meet
             case rel => exact ⟨_, (x440001_3), (x440005_2), (u440005), H', ⟨by have := HK1.out; have := HK2.out; have := HK3.out; first | omega | exact Nat.le_refl _⟩, ⟨by (with_reducible repeat (first | apply rA | apply rN | apply rD)); exact HO_440005.out⟩, ⟨by (with_reducible repeat (first | refine bN ?_ _ | refine bD ?_ | refine bA ?_ _)); exact BK439.out⟩, ⟨by repeat (first | (with_reducible first | exact HB.out | apply lA | apply lN | apply lD | refine below_set ?_ GE439.out) | exact HB.out)⟩⟩
 case rest =>
  clear HC4
  try clear c1
  try clear c2
  try clear p2
  try clear p6
  try clear c7
  try clear c7b0
  try clear c7b1
  try clear c8
  try clear c8b0
  try clear c9
  try clear c14
  try clear c14b0
  try clear c14b1
  try clear c15
  try clear c15b0
  try clear c16
  try clear c16b0
  try clear c16b1
  try clear c16b2
  try clear c18
  try clear c18b0
  try clear c19
  try clear c19b0
  try clear c19b1
  try clear c19b2
  try clear c20
  try clear c20b0
  try clear c21
  try clear c26
  try clear c26b0
  try clear c27
  try clear c27b0
  try clear c27b1
  try clear c27b2
  try clear hcz10_0
  try clear hcz10_1
  try clear hcz10_2
  try clear hcz10_3
  try clear hcz10_4
  try clear hcz10_5
  try clear hcz13_0
  try clear hcz13_1
  try clear hcz13_2
  try clear hcz13_3
  try clear hcz13_4
  try clear hcz13_5
  try clear hcz17_0
  try clear hcz17_1
  try clear hcz17_2
  try clear hcz17_3
  try clear hcz17_4
  try clear hcz17_5
  try clear hcz22_0
  try clear hcz22_1
  try clear hcz22_2
  try clear hcz22_3
  try clear hcz22_4
  try clear hcz22_5
  try clear hcz25_0
  try clear hcz25_1
  try clear hcz25_2
  try clear hcz25_3
  try clear hcz25_4
  try clear hcz25_5
  try clear hcz28_0
  try clear hcz28_1
  try clear hcz28_2
  try clear hcz28_3
  try clear hcz28_4
  try clear hcz28_5
  try clear hcz6_0
  try clear hcz6_1
  try clear hcz6_2
  try clear hcz6_3
  try clear hcz6_4
  try clear hcz6_5
  try clear hfz10_0
  try clear hfz10_1
  try clear hfz10_2
  try clear hfz10_3
  try clear hfz10_4
  try clear hfz10_5
  try clear hfz13_0
  try clear hfz13_1
  try clear hfz13_2
  try clear hfz13_3
  try clear hfz13_4
  try clear hfz13_5
  try clear hfz17_0
  try clear hfz17_1
  try clear hfz17_2
  try clear hfz17_3
  try clear hfz17_4
  try clear hfz17_5
  try clear hfz22_0
  try clear hfz22_1
  try clear hfz22_2
  try clear hfz22_3
  try clear hfz22_4
  try clear hfz22_5
  try clear hfz25_0
  try clear hfz25_1
  try clear hfz25_2
  try clear hfz25_3
  try clear hfz25_4
  try clear hfz25_5
  try clear hfz28_0
  try clear hfz28_1
  try clear hfz28_2
  try clear hfz28_3
  try clear hfz28_4
  try clear hfz28_5
  try clear hfz6_0
  try clear hfz6_1
  try clear hfz6_2
  try clear hfz6_3
  try clear hfz6_4
  try clear hfz6_5
  try clear p2
  try clear p6
  obtain ⟨kq, x440001_3, x440005_3, u440005, HA, HJ3, HO_440005, BK439, HB⟩ := hcut
  cases kq with
  | zero => exact absurd HA.out (by simp [lockagelaw06_HeadLimits.j5])
  | succ kj3 =>
   have H := HA.out
   clear HA
   simp only [lockagelaw06_HeadLimits.j5] at H
   replace H := Option.bind_eq_some_iff.mp H
   obtain ⟨t446, A290, H⟩ := H
   replace H : ((lockagelaw06_awake.f kj3).bind fun t447 => (if t447 = true then ((lockagelaw06_told.f kj3 (⟨#[71, 69, 84]⟩ : ByteArray) x440001_3 0 (⟨#[]⟩ : ByteArray) 1 x440005_3).bind fun t448 => (if t448 = true then (if 0 ≤ (wrap64 ((t446.size : Int) - 4)) then (if (wrap64 ((t446.size : Int) - 4)) ≤ (t446.size : Int) then ((lockagelaw06_same.f kj3 (t446.extract 0 ((wrap64 ((t446.size : Int) - 4)) : Int).toNat)).bind fun t449 => (if t449 = true then (if 0 ≤ (mx 0 (wrap64 ((wrap64 ((t446.size : Int) - 4)) - (Int.tmod (wrap64 (a2)) 4)))) then (if (mx 0 (wrap64 ((wrap64 ((t446.size : Int) - 4)) - (Int.tmod (wrap64 (a2)) 4)))) ≤ (t446.size : Int) then ((lockagelaw06_same.f kj3 (t446.extract 0 ((mx 0 (wrap64 ((wrap64 ((t446.size : Int) - 4)) - (Int.tmod (wrap64 (a2)) 4)))) : Int).toNat)).bind fun t450 => (some t450)) else (none)) else (none)) else (none))) else (none)) else (none)) else (none))) else (none))) = some r := H
   have A29 := aM A290
   clear A290
   replace H := Option.bind_eq_some_iff.mp H
   obtain ⟨t447, A300, H⟩ := H
   replace H : (if t447 = true then ((lockagelaw06_told.f kj3 (⟨#[71, 69, 84]⟩ : ByteArray) x440001_3 0 (⟨#[]⟩ : ByteArray) 1 x440005_3).bind fun t448 => (if t448 = true then (if 0 ≤ (wrap64 ((t446.size : Int) - 4)) then (if (wrap64 ((t446.size : Int) - 4)) ≤ (t446.size : Int) then ((lockagelaw06_same.f kj3 (t446.extract 0 ((wrap64 ((t446.size : Int) - 4)) : Int).toNat)).bind fun t449 => (if t449 = true then (if 0 ≤ (mx 0 (wrap64 ((wrap64 ((t446.size : Int) - 4)) - (Int.tmod (wrap64 (a2)) 4)))) then (if (mx 0 (wrap64 ((wrap64 ((t446.size : Int) - 4)) - (Int.tmod (wrap64 (a2)) 4)))) ≤ (t446.size : Int) then ((lockagelaw06_same.f kj3 (t446.extract 0 ((mx 0 (wrap64 ((wrap64 ((t446.size : Int) - 4)) - (Int.tmod (wrap64 (a2)) 4)))) : Int).toNat)).bind fun t450 => (some t450)) else (none)) else (none)) else (none))) else (none)) else (none)) else (none))) else (none)) = some r := H
   have A30 := aM A300
   clear A300
   by_cases c31 : t447 = true
   ·subst c31
    have H1 : ((lockagelaw06_told.f kj3 (⟨#[71, 69, 84]⟩ : ByteArray) x440001_3 0 (⟨#[]⟩ : ByteArray) 1 x440005_3).bind fun t448 => (if t448 = true then (if 0 ≤ (wrap64 ((t446.size : Int) - 4)) then (if (wrap64 ((t446.size : Int) - 4)) ≤ (t446.size : Int) then ((lockagelaw06_same.f kj3 (t446.extract 0 ((wrap64 ((t446.size : Int) - 4)) : Int).toNat)).bind fun t449 => (if t449 = true then (if 0 ≤ (mx 0 (wrap64 ((wrap64 ((t446.size : Int) - 4)) - (Int.tmod (wrap64 (a2)) 4)))) then (if (mx 0 (wrap64 ((wrap64 ((t446.size : Int) - 4)) - (Int.tmod (wrap64 (a2)) 4)))) ≤ (t446.size : Int) then ((lockagelaw06_same.f kj3 (t446.extract 0 ((mx 0 (wrap64 ((wrap64 ((t446.size : Int) - 4)) - (Int.tmod (wrap64 (a2)) 4)))) : Int).toNat)).bind fun t450 => (some t450)) else (none)) else (none)) else (none))) else (none)) else (none)) else (none))) = some r := by rw [if_pos rfl] at H; exact H
    clear H
    have H := H1
    clear H1
    replace H := Option.bind_eq_some_iff.mp H
    obtain ⟨t448, A320, H⟩ := H
    replace H : (if t448 = true then (if 0 ≤ (wrap64 ((t446.size : Int) - 4)) then (if (wrap64 ((t446.size : Int) - 4)) ≤ (t446.size : Int) then ((lockagelaw06_same.f kj3 (t446.extract 0 ((wrap64 ((t446.size : Int) - 4)) : Int).toNat)).bind fun t449 => (if t449 = true then (if 0 ≤ (mx 0 (wrap64 ((wrap64 ((t446.size : Int) - 4)) - (Int.tmod (wrap64 (a2)) 4)))) then (if (mx 0 (wrap64 ((wrap64 ((t446.size : Int) - 4)) - (Int.tmod (wrap64 (a2)) 4)))) ≤ (t446.size : Int) then ((lockagelaw06_same.f kj3 (t446.extract 0 ((mx 0 (wrap64 ((wrap64 ((t446.size : Int) - 4)) - (Int.tmod (wrap64 (a2)) 4)))) : Int).toNat)).bind fun t450 => (some t450)) else (none)) else (none)) else (none))) else (none)) else (none)) else (none)) = some r := H
    have A32 := aM A320
    clear A320
    by_cases c33 : t448 = true
    ·subst c33
     have H1 : (if 0 ≤ (wrap64 ((t446.size : Int) - 4)) then (if (wrap64 ((t446.size : Int) - 4)) ≤ (t446.size : Int) then ((lockagelaw06_same.f kj3 (t446.extract 0 ((wrap64 ((t446.size : Int) - 4)) : Int).toNat)).bind fun t449 => (if t449 = true then (if 0 ≤ (mx 0 (wrap64 ((wrap64 ((t446.size : Int) - 4)) - (Int.tmod (wrap64 (a2)) 4)))) then (if (mx 0 (wrap64 ((wrap64 ((t446.size : Int) - 4)) - (Int.tmod (wrap64 (a2)) 4)))) ≤ (t446.size : Int) then ((lockagelaw06_same.f kj3 (t446.extract 0 ((mx 0 (wrap64 ((wrap64 ((t446.size : Int) - 4)) - (Int.tmod (wrap64 (a2)) 4)))) : Int).toNat)).bind fun t450 => (some t450)) else (none)) else (none)) else (none))) else (none)) else (none)) = some r := by rw [if_pos rfl] at H; exact H
     clear H
     have H := H1
     clear H1
     obtain ⟨ji34, hji34⟩ : ∃ j_ : Int, (wrap64 ((t446.size : Int) - 4)) = j_ := ⟨_, rfl⟩
     replace H : (if 0 ≤ (ji34) then (if (ji34) ≤ (t446.size : Int) then ((lockagelaw06_same.f kj3 (t446.extract 0 ((ji34) : Int).toNat)).bind fun t449 => (if t449 = true then (if 0 ≤ (mx 0 (wrap64 ((ji34) - (Int.tmod (wrap64 (a2)) 4)))) then (if (mx 0 (wrap64 ((ji34) - (Int.tmod (wrap64 (a2)) 4)))) ≤ (t446.size : Int) then ((lockagelaw06_same.f kj3 (t446.extract 0 ((mx 0 (wrap64 ((ji34) - (Int.tmod (wrap64 (a2)) 4)))) : Int).toNat)).bind fun t450 => (some t450)) else (none)) else (none)) else (none))) else (none)) else (none)) = some r := by first | (rw [hji34] at H; exact H) | (simp only [hji34] at H ⊢; exact H)
     (try rw [hji34] at A29)
     (try rw [hji34] at A30)
     (try rw [hji34] at A32)
     have hji34w : (IntKind.i64.wrap ((t446.size : Int) - 4)) = ji34 := (i64_w _).trans hji34
     by_cases c35 : 0 ≤ (ji34)
     ·rw [if_pos c35] at H
      have c35b0 := eq_true c35
      have c35b1 : decide (0 ≤ (ji34)) = true := decide_eq_true c35
      clear c35
      by_cases c36 : (ji34) ≤ (t446.size : Int)
      ·rw [if_pos c36] at H
       have c36b0 := eq_true c36
       have c36b1 : decide ((ji34) ≤ (t446.size : Int)) = true := decide_eq_true c36
       clear c36
       replace H := Option.bind_eq_some_iff.mp H
       obtain ⟨t449, A370, H⟩ := H
       replace H : (if t449 = true then (if 0 ≤ (mx 0 (wrap64 ((ji34) - (Int.tmod (wrap64 (a2)) 4)))) then (if (mx 0 (wrap64 ((ji34) - (Int.tmod (wrap64 (a2)) 4)))) ≤ (t446.size : Int) then ((lockagelaw06_same.f kj3 (t446.extract 0 ((mx 0 (wrap64 ((ji34) - (Int.tmod (wrap64 (a2)) 4)))) : Int).toNat)).bind fun t450 => (some t450)) else (none)) else (none)) else (none)) = some r := H
       have A37 := aM A370
       clear A370
       by_cases c38 : t449 = true
       ·subst c38
        have H1 : (if 0 ≤ (mx 0 (wrap64 ((ji34) - (Int.tmod (wrap64 (a2)) 4)))) then (if (mx 0 (wrap64 ((ji34) - (Int.tmod (wrap64 (a2)) 4)))) ≤ (t446.size : Int) then ((lockagelaw06_same.f kj3 (t446.extract 0 ((mx 0 (wrap64 ((ji34) - (Int.tmod (wrap64 (a2)) 4)))) : Int).toNat)).bind fun t450 => (some t450)) else (none)) else (none)) = some r := by rw [if_pos rfl] at H; exact H
        clear H
        have H := H1
        clear H1
        obtain ⟨ji39, hji39⟩ : ∃ j_ : Int, (mx 0 (wrap64 ((ji34) - (Int.tmod (wrap64 (a2)) 4)))) = j_ := ⟨_, rfl⟩
        replace H : (if 0 ≤ (ji39) then (if (ji39) ≤ (t446.size : Int) then ((lockagelaw06_same.f kj3 (t446.extract 0 ((ji39) : Int).toNat)).bind fun t450 => (some t450)) else (none)) else (none)) = some r := by first | (rw [hji39] at H; exact H) | (simp only [hji39] at H ⊢; exact H)
        (try rw [hji39] at A29)
        (try rw [hji39] at A30)
        (try rw [hji39] at A32)
        (try rw [hji39] at A37)
        have hji39_ : (if 0 < (wrap64 ((ji34) - (Int.tmod (wrap64 (a2)) 4))) then (wrap64 ((ji34) - (Int.tmod (wrap64 (a2)) 4))) else 0) = ji39 := hji39
        by_cases c40 : 0 ≤ (ji39)
        ·rw [if_pos c40] at H
         have c40b0 := eq_true c40
         have c40b1 : decide (0 ≤ (ji39)) = true := decide_eq_true c40
         clear c40
         by_cases c41 : (ji39) ≤ (t446.size : Int)
         ·rw [if_pos c41] at H
          have c41b0 := eq_true c41
          have c41b1 : decide ((ji39) ≤ (t446.size : Int)) = true := decide_eq_true c41
          clear c41
          replace H := Option.bind_eq_some_iff.mp H
          obtain ⟨t450, A420, H⟩ := H
          replace H : (some t450) = some r := H
          have A42 := aM A420
          clear A420
          obtain rfl := Option.some.inj H
          obtain ⟨hcz43_0, hcz43_1, hcz43_2, hcz43_3, hcz43_4, hcz43_5, hfz43_0, hfz43_1, hfz43_2, hfz43_3, hfz43_4, hfz43_5⟩ := cz6 BK439.out
          obtain ⟨Ao44, co44, eo44⟩ := Kd.R_slice HO_440005.out
          subst eo44
          go_wp2_with (first | ((with_reducible refine gate_callee (f := 14) rfl ?_); refine goesL_ (some 76) rfl rfl Tryz.func14 (by kernel_rfl) rfl #[.agg #[.string (⟨#[71, 69, 84]⟩ : ByteArray), .string x440001_3, .int .i64 0, .string (⟨#[]⟩ : ByteArray), .int .i64 1, .slice Ao44 x440005_3.length co44], .bool false] rfl (by (try simp only [List.map_toArray, List.map_cons, List.map_nil]); first | done | rfl | (simp only [List.length_drop, List.length_take]; rfl)) ?_; (with_reducible refine (lockageref06_Text.calls kj3 (⟨#[71, 69, 84]⟩ : ByteArray) x440001_3 0 (⟨#[]⟩ : ByteArray) 1 _ _ x440005_3 false t446 _ ?side1 ?side2 A29.out).mono ?_); (case side1 => repeat (first | exact (Kd.R_reads' HO_440005.out).2.2 | (with_reducible refine Kd.C_alloc ?_ _) | (with_reducible refine Kd.C_drewN ?_ _) | (with_reducible refine Kd.C_drew ?_))); (case side2 => exact (Kd.R_reads' HO_440005.out).2.1); rintro e w45 ⟨rfl, hb⟩; refine ⟨_, rfl, ?_⟩; have n0_ := aM (Kd.R_below (by (with_reducible repeat (first | apply rA | apply rN | apply rD)); exact HO_440005.out) hb); have n1_ := aM (blk_below (g := gb439) (o := .cells #[.string (⟨#[71, 69, 84]⟩ : ByteArray), .string x440001_3, .int .i64 0, .string (⟨#[]⟩ : ByteArray), .int .i64 1, .slice Ao44 x440005_3.length co44] 30 (0, 0)) (by (with_reducible repeat (first | refine bN ?_ _ | refine bD ?_ | refine bA ?_ _)); exact BK439.out) hb); have n2_ := aM (below_step (by repeat (first | (with_reducible first | exact HB.out | apply lA | apply lN | apply lD | refine below_set ?_ GE439.out) | exact HB.out)) hb); clear HO_440005 BK439 HB; have HO_440005 := n0_; have BK439 := n1_; have HB := n2_; clear n0_ n1_ n2_; (try clear hb); (try clear hb2); (try clear hk); (try clear hi)) | ((with_reducible refine gate_callee (f := 8) rfl ?_); refine goesL_ (some 77) rfl rfl Tryz.func8 (by kernel_rfl) rfl #[] rfl (by (try simp only [List.map_toArray, List.map_cons, List.map_nil]); first | done | rfl | (simp only [List.length_drop, List.length_take]; rfl)) ?_; (with_reducible refine (lockagelaw06_awake.calls kj3  true _ ?side1 A30.out).mono ?_); (case side1 => exact glob_below HG_.out (by repeat (first | (with_reducible first | exact HB.out | apply lA | apply lN | apply lD | refine below_set ?_ GE439.out) | exact HB.out))); rintro e w46 ⟨rfl, hb⟩; refine ⟨_, rfl, ?_⟩; have n0_ := aM (Kd.R_below (by (with_reducible repeat (first | apply rA | apply rN | apply rD)); exact HO_440005.out) hb); have n1_ := aM (blk_below (g := gb439) (o := .cells #[.string (⟨#[71, 69, 84]⟩ : ByteArray), .string x440001_3, .int .i64 0, .string (⟨#[]⟩ : ByteArray), .int .i64 1, .slice Ao44 x440005_3.length co44] 30 (0, 0)) (by (with_reducible repeat (first | refine bN ?_ _ | refine bD ?_ | refine bA ?_ _)); exact BK439.out) hb); have n2_ := aM (below_step (by repeat (first | (with_reducible first | exact HB.out | apply lA | apply lN | apply lD | refine below_set ?_ GE439.out) | exact HB.out)) hb); clear HO_440005 BK439 HB; have HO_440005 := n0_; have BK439 := n1_; have HB := n2_; clear n0_ n1_ n2_; (try clear hb); (try clear hb2); (try clear hk); (try clear hi); obtain ⟨hcz47_0, hcz47_1, hcz47_2, hcz47_3, hcz47_4, hcz47_5, hfz47_0, hfz47_1, hfz47_2, hfz47_3, hfz47_4, hfz47_5⟩ := cz6 BK439.out) | (go_at_call 12; (with_reducible refine (lockagelaw06_told.calls kj3 (⟨#[71, 69, 84]⟩ : ByteArray) x440001_3 0 (⟨#[]⟩ : ByteArray) 1 _ _ x440005_3 true _ ?side1 ?side2 ?side3 A32.out).mono ?_); (case side1 => repeat (first | exact (Kd.R_reads' HO_440005.out).2.2 | (with_reducible refine Kd.C_alloc ?_ _) | (with_reducible refine Kd.C_drewN ?_ _) | (with_reducible refine Kd.C_drew ?_))); (case side2 => exact (Kd.R_reads' HO_440005.out).2.1); (case side3 => exact glob_below HG_.out (by repeat (first | (with_reducible first | exact HB.out | apply lA | apply lN | apply lD | refine below_set ?_ GE439.out) | exact HB.out))); rintro e w48 ⟨rfl, hb⟩; have n0_ := aM (Kd.R_below (by (with_reducible repeat (first | apply rA | apply rN | apply rD)); exact HO_440005.out) hb); have n1_ := aM (blk_below (g := gb439) (o := .cells #[.string (⟨#[71, 69, 84]⟩ : ByteArray), .string x440001_3, .int .i64 0, .string (⟨#[]⟩ : ByteArray), .int .i64 1, .slice Ao44 x440005_3.length co44] 30 (0, 0)) (by (with_reducible repeat (first | refine bN ?_ _ | refine bD ?_ | refine bA ?_ _)); exact BK439.out) hb); have n2_ := aM (below_step (by repeat (first | (with_reducible first | exact HB.out | apply lA | apply lN | apply lD | refine below_set ?_ GE439.out) | exact HB.out)) hb); clear HO_440005 BK439 HB; have HO_440005 := n0_; have BK439 := n1_; have HB := n2_; clear n0_ n1_ n2_; (try clear hb); (try clear hb2); (try clear hk); (try clear hi)) | (go_at_call 9; (with_reducible refine (lockagelaw06_same.calls kj3 (t446.extract 0 ((ji34) : Int).toNat) true _ ?side1 A37.out).mono ?_); (case side1 => exact glob_below HG_.out (by repeat (first | (with_reducible first | exact HB.out | apply lA | apply lN | apply lD | refine below_set ?_ GE439.out) | exact HB.out))); rintro e w49 ⟨rfl, hb⟩; have n0_ := aM (Kd.R_below (by (with_reducible repeat (first | apply rA | apply rN | apply rD)); exact HO_440005.out) hb); have n1_ := aM (blk_below (g := gb439) (o := .cells #[.string (⟨#[71, 69, 84]⟩ : ByteArray), .string x440001_3, .int .i64 0, .string (⟨#[]⟩ : ByteArray), .int .i64 1, .slice Ao44 x440005_3.length co44] 30 (0, 0)) (by (with_reducible repeat (first | refine bN ?_ _ | refine bD ?_ | refine bA ?_ _)); exact BK439.out) hb); have n2_ := aM (below_step (by repeat (first | (with_reducible first | exact HB.out | apply lA | apply lN | apply lD | refine below_set ?_ GE439.out) | exact HB.out)) hb); clear HO_440005 BK439 HB; have HO_440005 := n0_; have BK439 := n1_; have HB := n2_; clear n0_ n1_ n2_; (try clear hb); (try clear hb2); (try clear hk); (try clear hi)) | (go_at_call 9; (with_reducible refine (lockagelaw06_same.calls kj3 (t446.extract 0 ((ji39) : Int).toNat) t450 _ ?side1 A42.out).mono ?_); (case side1 => exact glob_below HG_.out (by repeat (first | (with_reducible first | exact HB.out | apply lA | apply lN | apply lD | refine below_set ?_ GE439.out) | exact HB.out))); rintro e w50 ⟨rfl, hb⟩; have n0_ := aM (Kd.R_below (by (with_reducible repeat (first | apply rA | apply rN | apply rD)); exact HO_440005.out) hb); have n1_ := aM (blk_below (g := gb439) (o := .cells #[.string (⟨#[71, 69, 84]⟩ : ByteArray), .string x440001_3, .int .i64 0, .string (⟨#[]⟩ : ByteArray), .int .i64 1, .slice Ao44 x440005_3.length co44] 30 (0, 0)) (by (with_reducible repeat (first | refine bN ?_ _ | refine bD ?_ | refine bA ?_ _)); exact BK439.out) hb); have n2_ := aM (below_step (by repeat (first | (with_reducible first | exact HB.out | apply lA | apply lN | apply lD | refine below_set ?_ GE439.out) | exact HB.out)) hb); clear HO_440005 BK439 HB; have HO_440005 := n0_; have BK439 := n1_; have HB := n2_; clear n0_ n1_ n2_; (try clear hb); (try clear hb2); (try clear hk); (try clear hi)))
          go_ret
          exact ⟨by first | rfl | (simp [errW_none, errW_some] <;> rfl) | (simp only [← hji34, ← hji39]; first | rfl | (simp [errW_none, errW_some] <;> rfl)) | (simp [*, errW_none, errW_some] <;> rfl), by repeat (first | (with_reducible first | exact HB.out | apply lA | apply lN | apply lD | refine below_set ?_ GE439.out) | exact HB.out)⟩
         ·rw [if_neg c41] at H
          exact absurd H (by simp)
        ·rw [if_neg c40] at H
         exact absurd H (by simp)
       ·replace c38 := Bool.eq_false_iff.mpr c38
        subst c38
        have H1 : (none) = some r := by rw [if_neg (show ¬ (false = true) by decide)] at H; exact H
        clear H
        have H := H1
        clear H1
        exact absurd H (by simp)
      ·rw [if_neg c36] at H
       exact absurd H (by simp)
     ·rw [if_neg c35] at H
      exact absurd H (by simp)
    ·replace c33 := Bool.eq_false_iff.mpr c33
     subst c33
     have H1 : (none) = some r := by rw [if_neg (show ¬ (false = true) by decide)] at H; exact H
     clear H
     have H := H1
     clear H1
     exact absurd H (by simp)
   ·replace c31 := Bool.eq_false_iff.mpr c31
    subst c31
    have H1 : (none) = some r := by rw [if_neg (show ¬ (false = true) by decide)] at H; exact H
    clear H
    have H := H1
    clear H1
    exact absurd H (by simp)

def lockagelaw06_HeadLimits.Pure : Prop := ∀ (a0 : Int) (a1 : Int) (a2 : Int), (Lit.int .u8 a0).wf = true → (Lit.int .u8 a1).wf = true → (Lit.int .u8 a2).wf = true → ∃ k, lockagelaw06_HeadLimits.f k a0 a1 a2 = some true

end Go.Proofs.YtemhokkfefidlaaGreatDoor.P
