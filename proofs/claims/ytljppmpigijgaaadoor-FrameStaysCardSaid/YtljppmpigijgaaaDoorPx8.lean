/- Printed by a program of the session out of the translation: plain Lean functions, each with the contract that the Go function computes it. -/
import Derived.Test.YtljppmpigijgaaaDoorHY
import Derived.Test.YtljppmpigijgaaaDoorPx0
import Derived.Test.YtljppmpigijgaaaDoorPx6
import Derived.Test.YtljppmpigijgaaaDoorPx7
import Derived.Test.YtljppmpigijgaaaDoorHK
namespace Go.Proofs.YtljppmpigijgaaaDoor.P
open Go.RowKit Go.Proofs.YtljppmpigijgaaaDoorW.PrintWords Go.Proofs.YtljppmpigijgaaaDoorW.PrintLast Go.Proofs.YtljppmpigijgaaaDoorW.PrintMore
attribute [local go_sem] max2_int min2_int max_two min_two max_three min_three max_four min_four   -- for this text's walks alone
set_option linter.unusedVariables false
set_option linter.unusedSimpArgs false

/-! ### lockagelaw07_FrameStays: function 7 -/
def lockagelaw07_FrameStays.f (k : Nat) (l0 : List Int) (a1 : Int) (a2 : Int) (a3 : Bool) : Option (Bool) := (lockagelaw07_awake.f k).bind fun t285 => (if t285 = true then ((some (([(⟨#[99, 108, 111, 115, 101]⟩ : ByteArray), (⟨#[107, 101, 101, 112, 45, 97, 108, 105, 118, 101]⟩ : ByteArray), (⟨#[97]⟩ : ByteArray), (⟨#[]⟩ : ByteArray), (⟨#[99, 108, 111, 115, 101, 100]⟩ : ByteArray), (⟨#[67, 76, 79, 83, 69]⟩ : ByteArray), (⟨#[75, 101, 101, 112, 45, 65, 108, 105, 118, 101]⟩ : ByteArray)] : List ByteArray) : List ByteArray)).bind fun y286 => (if 0 ≤ (Int.tmod (wrap64 (a1)) 7) then (if (Int.tmod (wrap64 (a1)) 7) < (y286.length : Int) then (if 0 ≤ (Int.tmod (wrap64 (a2)) 7) then (if (Int.tmod (wrap64 (a2)) 7) < (y286.length : Int) then ((lockagelaw06_Made.f k l0 a3).bind fun bt291 => (if ([] : List (S32)).length + bt291.2.2.2.2.2.length < 4398046511104 then ((some (([] : List (S32)) ++ bt291.2.2.2.2.2 : List (S32))).bind fun y303 => (if (rdOf ByteArray.empty y286 (Int.tmod (wrap64 (a1)) 7)).size + 1 ≤ 9223372036854775807 then (if ((rdOf ByteArray.empty y286 (Int.tmod (wrap64 (a1)) 7)) ++ (⟨#[44]⟩ : ByteArray)).size + (rdOf ByteArray.empty y286 (Int.tmod (wrap64 (a2)) 7)).size ≤ 9223372036854775807 then (if y303.length < 4398046511104 then ((some (([] : List (S32)) ++ bt291.2.2.2.2.2 : List (S32))).bind fun y309 => ((lockageref05_Lower.f k (rdOf ByteArray.empty y286 (Int.tmod (wrap64 (a2)) 7))).bind fun t312 => ((some (([(⟨(⟨#[99, 111, 110, 110, 101, 99, 116, 105, 111, 110]⟩ : ByteArray), t312⟩ : S32), (⟨(⟨#[67, 79, 78, 78, 69, 67, 84, 73, 79, 78]⟩ : ByteArray), rdOf ByteArray.empty y286 (Int.tmod (wrap64 (a1)) 7)⟩ : S32)] : List (S32)) : List (S32))).bind fun y313 => (if y309.length + y313.length < 4398046511104 then ((some (([] : List (S32)) ++ bt291.2.2.2.2.2 : List (S32))).bind fun y319 => (if y319.length < 4398046511104 then ((frame_Stays.f k bt291.1 bt291.2.1 bt291.2.2.1 bt291.2.2.2.1 bt291.2.2.2.2.1 (y303 ++ [(⟨(⟨#[67, 111, 110, 110, 101, 99, 116, 105, 111, 110]⟩ : ByteArray), ((rdOf ByteArray.empty y286 (Int.tmod (wrap64 (a1)) 7)) ++ (⟨#[44]⟩ : ByteArray)) ++ (rdOf ByteArray.empty y286 (Int.tmod (wrap64 (a2)) 7))⟩ : S32)])).bind fun t325 => ((frame_Stays.f k bt291.1 bt291.2.1 bt291.2.2.1 bt291.2.2.2.1 bt291.2.2.2.2.1 (y309 ++ y313)).bind fun t326 => (if (t325 == t326) = true then ((frame_Stays.f k bt291.1 bt291.2.1 bt291.2.2.1 bt291.2.2.2.1 bt291.2.2.2.2.1 (y319 ++ [(⟨(⟨#[67, 111, 110, 110, 101, 99, 116, 105, 111, 110]⟩ : ByteArray), (⟨#[120, 44, 32, 99, 108, 111, 115, 101]⟩ : ByteArray)⟩ : S32)])).bind fun t327 => (if t327 = true then (none) else (if bt291.2.2.2.2.1 = 0 then (some true) else ((frame_Stays.f k (⟨#[]⟩ : ByteArray) (⟨#[]⟩ : ByteArray) 0 (⟨#[]⟩ : ByteArray) 1 ([] : List (S32))).bind fun t328 => (some t328))))) else (none)))) else (none))) else (none))))) else (none)) else (none)) else (none))) else (none))) else (none)) else (none)) else (none)) else (none))) else (none))
theorem lockagelaw07_FrameStays.mono : ∀ a0 a1 a2 a3 k, LeO (lockagelaw07_FrameStays.f k a0 a1 a2 a3) (lockagelaw07_FrameStays.f (k + 1) a0 a1 a2 a3) := by
 intro a0 a1 a2 a3 k
 unfold lockagelaw07_FrameStays.f
 repeat' first
   | (with_reducible exact frame_Stays.mono _ _ _ _ _ _ _)
   | (with_reducible exact lockagelaw06_Made.mono _ _ _)
   | (with_reducible exact lockagelaw07_awake.mono _)
   | (with_reducible exact lockageref05_Lower.mono _ _)
   | (with_reducible exact LeO.refl _)
   | (with_reducible exact LeO.none _)
   | (with_reducible refine LeO.ite ?_ ?_)
   | (with_reducible refine LeO.bind ?_ (fun _ => ?_))
   | exact frame_Stays.mono _ _ _ _ _ _ _
   | exact lockagelaw06_Made.mono _ _ _
   | exact lockagelaw07_awake.mono _
   | exact lockageref05_Lower.mono _ _
   | exact LeO.none _
   | refine LeO.ite ?_ ?_
   | refine LeO.bind ?_ (fun _ => ?_)
def lockagelaw07_FrameStays.T5 : Bool × List (List Nat × List Nat) := (true, [([], []), ([], []), ([1], [1]), ([2], [2]), ([0, 3], [0, 3]), ([4], [4]), ([], []), ([], []), ([7], [7]), ([8], [8]), ([6, 9], [6, 9]), ([10], [10]), ([5, 0, 1, 2, 3, 4, 5], [5]), ([11, 12, 0, 1, 2, 3, 4, 5, 6, 7, 8, 9, 10, 11, 12], [11])])
def lockagelaw07_FrameStays.B5 : List Nat := [0, 0, 2, 6, 15, 31, 0, 0, 128, 384, 960, 1984, 63, 8191]
theorem lockagelaw07_FrameStays.tab5 : rtab .any (opsOf Tryd.f7 5) = lockagelaw07_FrameStays.T5 := by kernel_rfl
theorem lockagelaw07_FrameStays.bits5 : waitsOk lockagelaw07_FrameStays.T5.2 lockagelaw07_FrameStays.B5 = true := by kernel_rfl
def lockagelaw07_FrameStays.T7 : Bool × List (List Nat × List Nat) := (true, [([], []), ([], []), ([], []), ([], []), ([], []), ([], []), ([3, 0, 0, 3, 4, 5], [0, 3]), ([4, 1, 6, 0, 1, 3, 4, 5, 6], [1, 4]), ([5, 2, 7, 0, 1, 2, 3, 4, 5, 6, 7], [2, 5])])
def lockagelaw07_FrameStays.B7 : List Nat := [0, 0, 0, 0, 0, 0, 57, 123, 255]
theorem lockagelaw07_FrameStays.tab7 : rtab .any (opsOf Tryd.f7 7) = lockagelaw07_FrameStays.T7 := by kernel_rfl
theorem lockagelaw07_FrameStays.bits7 : waitsOk lockagelaw07_FrameStays.T7.2 lockagelaw07_FrameStays.B7 = true := by kernel_rfl
def lockagelaw07_FrameStays.T11 : Bool × List (List Nat × List Nat) := (true, [([], []), ([0], [0]), ([1], [1]), ([2, 1, 1], [1, 2]), ([1], [1]), ([4, 3, 1], [1, 4]), ([3, 5, 1], [1, 3, 5]), ([1, 6], [1, 6]), ([7, 5], [7]), ([8], [8]), ([9, 8, 8], [8, 9]), ([10, 8], [8, 10]), ([8, 11], [8, 11]), ([12, 10], [12]), ([13], [13]), ([14, 13], [13, 14]), ([15, 13], [13, 15]), ([16, 13, 13], [13, 16]), ([17], [17]), ([18, 17, 17], [17, 18]), ([17, 19, 13], [13, 17, 19]), ([13, 20], [13, 20]), ([21, 19, 0, 1, 2, 3, 4, 5, 6, 7, 8, 9, 10, 11, 12, 13, 14, 15, 16, 17, 18, 19, 20, 21], [21])])
def lockagelaw07_FrameStays.B11 : List Nat := [0, 1, 3, 7, 3, 31, 63, 127, 255, 511, 1023, 2047, 4095, 8191, 16383, 32767, 65535, 131071, 262143, 524287, 1048575, 2097151, 4194303]
theorem lockagelaw07_FrameStays.tab11 : rtab .any (opsOf Tryd.f7 11) = lockagelaw07_FrameStays.T11 := by kernel_rfl
theorem lockagelaw07_FrameStays.bits11 : waitsOk lockagelaw07_FrameStays.T11.2 lockagelaw07_FrameStays.B11 = true := by kernel_rfl
end Go.Proofs.YtljppmpigijgaaaDoor.P
