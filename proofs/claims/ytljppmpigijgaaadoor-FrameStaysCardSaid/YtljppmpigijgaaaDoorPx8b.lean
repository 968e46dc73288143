/- Printed by a program of the session out of the translation: plain Lean functions, each with the contract that the Go function computes it. -/
import Derived.Test.YtljppmpigijgaaaDoorPx8
import Derived.Test.YtljppmpigijgaaaDoorHY
import Derived.Test.YtljppmpigijgaaaDoorPx0
import Derived.Test.YtljppmpigijgaaaDoorPx6
import Derived.Test.YtljppmpigijgaaaDoorPx7
import Derived.Test.YtljppmpigijgaaaDoorHK
namespace Go.Proofs.YtljppmpigijgaaaDoor.P
open Go.RowKit Go.Proofs.YtljppmpigijgaaaDoorW.PrintWords Go.Proofs.YtljppmpigijgaaaDoorW.PrintLast Go.Proofs.YtljppmpigijgaaaDoorW.PrintMore
attribute [local go_sem] max2_int min2_int max_two min_two max_three min_three max_four min_four   -- for this text's walks alone
set_option linter.unusedVariables false
set_option linter.unusedSimpArgs false
set_option maxHeartbeats 40000000 in
set_option maxRecDepth 100000 in
theorem lockagelaw07_FrameStays.calls1 (k : Nat) (A0 : Option Addr) (c0 : Nat) (l0 : List Int) (a1 : Int) (a2 : Int) (a3 : Bool) (r : Bool) (w : World) (hr0 : Kd.C (Kd.int .u8) w A0 l0.length l0) (hc0 : l0.length ≤ c0) (hb_ : Aside0 (∀ x1 x2 x3 x4 x5 x6, lockagelaw06_Made.f k l0 a3 = some (x1, x2, x3, x4, x5, x6) → ¬ (x5 = 0))) (h : lockagelaw07_FrameStays.f k l0 a1 a2 a3 = some r) :
  Calls Tryd.prog 7 #[.slice A0 l0.length c0, .int .u8 a1, .int .u8 a2, .bool a3] w fun e w' => e = .returned (.bool r) ∧ Below w.heap.size w w' := by
 have hu25 := Tryd.underlying25
 have hu32 := Tryd.underlying32
 have HR0 := aM hr0
 have HC0 := aM hc0
 clear hr0 hc0
 have HB := aM (Below.refl w.heap.size w)
 have H : ((lockagelaw07_awake.f k).bind fun t285 => (if t285 = true then ((some (([(⟨#[99, 108, 111, 115, 101]⟩ : ByteArray), (⟨#[107, 101, 101, 112, 45, 97, 108, 105, 118, 101]⟩ : ByteArray), (⟨#[97]⟩ : ByteArray), (⟨#[]⟩ : ByteArray), (⟨#[99, 108, 111, 115, 101, 100]⟩ : ByteArray), (⟨#[67, 76, 79, 83, 69]⟩ : ByteArray), (⟨#[75, 101, 101, 112, 45, 65, 108, 105, 118, 101]⟩ : ByteArray)] : List ByteArray) : List ByteArray)).bind fun y286 => (if 0 ≤ (Int.tmod (wrap64 (a1)) 7) then (if (Int.tmod (wrap64 (a1)) 7) < (y286.length : Int) then (if 0 ≤ (Int.tmod (wrap64 (a2)) 7) then (if (Int.tmod (wrap64 (a2)) 7) < (y286.length : Int) then ((lockagelaw06_Made.f k l0 a3).bind fun bt291 => (if ([] : List (S32)).length + bt291.2.2.2.2.2.length < 4398046511104 then ((some (([] : List (S32)) ++ bt291.2.2.2.2.2 : List (S32))).bind fun y303 => (if (rdOf ByteArray.empty y286 (Int.tmod (wrap64 (a1)) 7)).size + 1 ≤ 9223372036854775807 then (if ((rdOf ByteArray.empty y286 (Int.tmod (wrap64 (a1)) 7)) ++ (⟨#[44]⟩ : ByteArray)).size + (rdOf ByteArray.empty y286 (Int.tmod (wrap64 (a2)) 7)).size ≤ 9223372036854775807 then (if y303.length < 4398046511104 then ((some (([] : List (S32)) ++ bt291.2.2.2.2.2 : List (S32))).bind fun y309 => ((lockageref05_Lower.f k (rdOf ByteArray.empty y286 (Int.tmod (wrap64 (a2)) 7))).bind fun t312 => ((some (([(⟨(⟨#[99, 111, 110, 110, 101, 99, 116, 105, 111, 110]⟩ : ByteArray), t312⟩ : S32), (⟨(⟨#[67, 79, 78, 78, 69, 67, 84, 73, 79, 78]⟩ : ByteArray), rdOf ByteArray.empty y286 (Int.tmod (wrap64 (a1)) 7)⟩ : S32)] : List (S32)) : List (S32))).bind fun y313 => (if y309.length + y313.length < 4398046511104 then ((some (([] : List (S32)) ++ bt291.2.2.2.2.2 : List (S32))).bind fun y319 => (if y319.length < 4398046511104 then ((frame_Stays.f k bt291.1 bt291.2.1 bt291.2.2.1 bt291.2.2.2.1 bt291.2.2.2.2.1 (y303 ++ [(⟨(⟨#[67, 111, 110, 110, 101, 99, 116, 105, 111, 110]⟩ : ByteArray), ((rdOf ByteArray.empty y286 (Int.tmod (wrap64 (a1)) 7)) ++ (⟨#[44]⟩ : ByteArray)) ++ (rdOf ByteArray.empty y286 (Int.tmod (wrap64 (a2)) 7))⟩ : S32)])).bind fun t325 => ((frame_Stays.f k bt291.1 bt291.2.1 bt291.2.2.1 bt291.2.2.2.1 bt291.2.2.2.2.1 (y309 ++ y313)).bind fun t326 => (if (t325 == t326) = true then ((frame_Stays.f k bt291.1 bt291.2.1 bt291.2.2.1 bt291.2.2.2.1 bt291.2.2.2.2.1 (y319 ++ [(⟨(⟨#[67, 111, 110, 110, 101, 99, 116, 105, 111, 110]⟩ : ByteArray), (⟨#[120, 44, 32, 99, 108, 111, 115, 101]⟩ : ByteArray)⟩ : S32)])).bind fun t327 => (if t327 = true then (none) else (if bt291.2.2.2.2.1 = 0 then (some true) else ((frame_Stays.f k (⟨#[]⟩ : ByteArray) (⟨#[]⟩ : ByteArray) 0 (⟨#[]⟩ : ByteArray) 1 ([] : List (S32))).bind fun t328 => (some t328))))) else (none)))) else (none))) else (none))))) else (none)) else (none)) else (none))) else (none))) else (none)) else (none)) else (none)) else (none))) else (none))) = some r := h
 clear h
 replace H := Option.bind_eq_some_iff.mp H
 obtain ⟨t285, A50, H⟩ := H
 try dsimp only at H
 have A5 := aM A50
 clear A50
 by_cases c6 : t285 = true
 ·subst c6
  have H1 : ((some (([(⟨#[99, 108, 111, 115, 101]⟩ : ByteArray), (⟨#[107, 101, 101, 112, 45, 97, 108, 105, 118, 101]⟩ : ByteArray), (⟨#[97]⟩ : ByteArray), (⟨#[]⟩ : ByteArray), (⟨#[99, 108, 111, 115, 101, 100]⟩ : ByteArray), (⟨#[67, 76, 79, 83, 69]⟩ : ByteArray), (⟨#[75, 101, 101, 112, 45, 65, 108, 105, 118, 101]⟩ : ByteArray)] : List ByteArray) : List ByteArray)).bind fun y286 => (if 0 ≤ (Int.tmod (wrap64 (a1)) 7) then (if (Int.tmod (wrap64 (a1)) 7) < (y286.length : Int) then (if 0 ≤ (Int.tmod (wrap64 (a2)) 7) then (if (Int.tmod (wrap64 (a2)) 7) < (y286.length : Int) then ((lockagelaw06_Made.f k l0 a3).bind fun bt291 => (if ([] : List (S32)).length + bt291.2.2.2.2.2.length < 4398046511104 then ((some (([] : List (S32)) ++ bt291.2.2.2.2.2 : List (S32))).bind fun y303 => (if (rdOf ByteArray.empty y286 (Int.tmod (wrap64 (a1)) 7)).size + 1 ≤ 9223372036854775807 then (if ((rdOf ByteArray.empty y286 (Int.tmod (wrap64 (a1)) 7)) ++ (⟨#[44]⟩ : ByteArray)).size + (rdOf ByteArray.empty y286 (Int.tmod (wrap64 (a2)) 7)).size ≤ 9223372036854775807 then (if y303.length < 4398046511104 then ((some (([] : List (S32)) ++ bt291.2.2.2.2.2 : List (S32))).bind fun y309 => ((lockageref05_Lower.f k (rdOf ByteArray.empty y286 (Int.tmod (wrap64 (a2)) 7))).bind fun t312 => ((some (([(⟨(⟨#[99, 111, 110, 110, 101, 99, 116, 105, 111, 110]⟩ : ByteArray), t312⟩ : S32), (⟨(⟨#[67, 79, 78, 78, 69, 67, 84, 73, 79, 78]⟩ : ByteArray), rdOf ByteArray.empty y286 (Int.tmod (wrap64 (a1)) 7)⟩ : S32)] : List (S32)) : List (S32))).bind fun y313 => (if y309.length + y313.length < 4398046511104 then ((some (([] : List (S32)) ++ bt291.2.2.2.2.2 : List (S32))).bind fun y319 => (if y319.length < 4398046511104 then ((frame_Stays.f k bt291.1 bt291.2.1 bt291.2.2.1 bt291.2.2.2.1 bt291.2.2.2.2.1 (y303 ++ [(⟨(⟨#[67, 111, 110, 110, 101, 99, 116, 105, 111, 110]⟩ : ByteArray), ((rdOf ByteArray.empty y286 (Int.tmod (wrap64 (a1)) 7)) ++ (⟨#[44]⟩ : ByteArray)) ++ (rdOf ByteArray.empty y286 (Int.tmod (wrap64 (a2)) 7))⟩ : S32)])).bind fun t325 => ((frame_Stays.f k bt291.1 bt291.2.1 bt291.2.2.1 bt291.2.2.2.1 bt291.2.2.2.2.1 (y309 ++ y313)).bind fun t326 => (if (t325 == t326) = true then ((frame_Stays.f k bt291.1 bt291.2.1 bt291.2.2.1 bt291.2.2.2.1 bt291.2.2.2.2.1 (y319 ++ [(⟨(⟨#[67, 111, 110, 110, 101, 99, 116, 105, 111, 110]⟩ : ByteArray), (⟨#[120, 44, 32, 99, 108, 111, 115, 101]⟩ : ByteArray)⟩ : S32)])).bind fun t327 => (if t327 = true then (none) else (if bt291.2.2.2.2.1 = 0 then (some true) else ((frame_Stays.f k (⟨#[]⟩ : ByteArray) (⟨#[]⟩ : ByteArray) 0 (⟨#[]⟩ : ByteArray) 1 ([] : List (S32))).bind fun t328 => (some t328))))) else (none)))) else (none))) else (none))))) else (none)) else (none)) else (none))) else (none))) else (none)) else (none)) else (none)) else (none))) = some r := by rw [if_pos rfl] at H; exact H
  clear H
  have H := H1
  clear H1
  obtain ⟨y286, hy286⟩ : ∃ y_ : List ByteArray, y_ = (([(⟨#[99, 108, 111, 115, 101]⟩ : ByteArray), (⟨#[107, 101, 101, 112, 45, 97, 108, 105, 118, 101]⟩ : ByteArray), (⟨#[97]⟩ : ByteArray), (⟨#[]⟩ : ByteArray), (⟨#[99, 108, 111, 115, 101, 100]⟩ : ByteArray), (⟨#[67, 76, 79, 83, 69]⟩ : ByteArray), (⟨#[75, 101, 101, 112, 45, 65, 108, 105, 118, 101]⟩ : ByteArray)] : List ByteArray)) := ⟨_, rfl⟩
  replace H : (if 0 ≤ (Int.tmod (wrap64 (a1)) 7) then (if (Int.tmod (wrap64 (a1)) 7) < (y286.length : Int) then (if 0 ≤ (Int.tmod (wrap64 (a2)) 7) then (if (Int.tmod (wrap64 (a2)) 7) < (y286.length : Int) then ((lockagelaw06_Made.f k l0 a3).bind fun bt291 => (if ([] : List (S32)).length + bt291.2.2.2.2.2.length < 4398046511104 then ((some (([] : List (S32)) ++ bt291.2.2.2.2.2 : List (S32))).bind fun y303 => (if (rdOf ByteArray.empty y286 (Int.tmod (wrap64 (a1)) 7)).size + 1 ≤ 9223372036854775807 then (if ((rdOf ByteArray.empty y286 (Int.tmod (wrap64 (a1)) 7)) ++ (⟨#[44]⟩ : ByteArray)).size + (rdOf ByteArray.empty y286 (Int.tmod (wrap64 (a2)) 7)).size ≤ 9223372036854775807 then (if y303.length < 4398046511104 then ((some (([] : List (S32)) ++ bt291.2.2.2.2.2 : List (S32))).bind fun y309 => ((lockageref05_Lower.f k (rdOf ByteArray.empty y286 (Int.tmod (wrap64 (a2)) 7))).bind fun t312 => ((some (([(⟨(⟨#[99, 111, 110, 110, 101, 99, 116, 105, 111, 110]⟩ : ByteArray), t312⟩ : S32), (⟨(⟨#[67, 79, 78, 78, 69, 67, 84, 73, 79, 78]⟩ : ByteArray), rdOf ByteArray.empty y286 (Int.tmod (wrap64 (a1)) 7)⟩ : S32)] : List (S32)) : List (S32))).bind fun y313 => (if y309.length + y313.length < 4398046511104 then ((some (([] : List (S32)) ++ bt291.2.2.2.2.2 : List (S32))).bind fun y319 => (if y319.length < 4398046511104 then ((frame_Stays.f k bt291.1 bt291.2.1 bt291.2.2.1 bt291.2.2.2.1 bt291.2.2.2.2.1 (y303 ++ [(⟨(⟨#[67, 111, 110, 110, 101, 99, 116, 105, 111, 110]⟩ : ByteArray), ((rdOf ByteArray.empty y286 (Int.tmod (wrap64 (a1)) 7)) ++ (⟨#[44]⟩ : ByteArray)) ++ (rdOf ByteArray.empty y286 (Int.tmod (wrap64 (a2)) 7))⟩ : S32)])).bind fun t325 => ((frame_Stays.f k bt291.1 bt291.2.1 bt291.2.2.1 bt291.2.2.2.1 bt291.2.2.2.2.1 (y309 ++ y313)).bind fun t326 => (if (t325 == t326) = true then ((frame_Stays.f k bt291.1 bt291.2.1 bt291.2.2.1 bt291.2.2.2.1 bt291.2.2.2.2.1 (y319 ++ [(⟨(⟨#[67, 111, 110, 110, 101, 99, 116, 105, 111, 110]⟩ : ByteArray), (⟨#[120, 44, 32, 99, 108, 111, 115, 101]⟩ : ByteArray)⟩ : S32)])).bind fun t327 => (if t327 = true then (none) else (if bt291.2.2.2.2.1 = 0 then (some true) else ((frame_Stays.f k (⟨#[]⟩ : ByteArray) (⟨#[]⟩ : ByteArray) 0 (⟨#[]⟩ : ByteArray) 1 ([] : List (S32))).bind fun t328 => (some t328))))) else (none)))) else (none))) else (none))))) else (none)) else (none)) else (none))) else (none))) else (none)) else (none)) else (none)) else (none)) = some r := by first | (rw [hy286]; with_reducible exact H) | (have H2_ := (Option.bind_some _ _).symm.trans H; rw [hy286]; with_reducible exact H2_) | (have H2_ := (Option.bind_some _ _).symm.trans H; with_reducible exact H2_) | with_reducible exact H | (rw [hy286]; exact H) | exact H
  have Ny286 := aM hy286
  clear hy286
  obtain ⟨ji7, hji7⟩ : ∃ j_ : Int, (Int.tmod (wrap64 (a1)) 7) = j_ := ⟨_, rfl⟩
  replace H : (if 0 ≤ (ji7) then (if (ji7) < (y286.length : Int) then (if 0 ≤ (Int.tmod (wrap64 (a2)) 7) then (if (Int.tmod (wrap64 (a2)) 7) < (y286.length : Int) then ((lockagelaw06_Made.f k l0 a3).bind fun bt291 => (if ([] : List (S32)).length + bt291.2.2.2.2.2.length < 4398046511104 then ((some (([] : List (S32)) ++ bt291.2.2.2.2.2 : List (S32))).bind fun y303 => (if (rdOf ByteArray.empty y286 (ji7)).size + 1 ≤ 9223372036854775807 then (if ((rdOf ByteArray.empty y286 (ji7)) ++ (⟨#[44]⟩ : ByteArray)).size + (rdOf ByteArray.empty y286 (Int.tmod (wrap64 (a2)) 7)).size ≤ 9223372036854775807 then (if y303.length < 4398046511104 then ((some (([] : List (S32)) ++ bt291.2.2.2.2.2 : List (S32))).bind fun y309 => ((lockageref05_Lower.f k (rdOf ByteArray.empty y286 (Int.tmod (wrap64 (a2)) 7))).bind fun t312 => ((some (([(⟨(⟨#[99, 111, 110, 110, 101, 99, 116, 105, 111, 110]⟩ : ByteArray), t312⟩ : S32), (⟨(⟨#[67, 79, 78, 78, 69, 67, 84, 73, 79, 78]⟩ : ByteArray), rdOf ByteArray.empty y286 (ji7)⟩ : S32)] : List (S32)) : List (S32))).bind fun y313 => (if y309.length + y313.length < 4398046511104 then ((some (([] : List (S32)) ++ bt291.2.2.2.2.2 : List (S32))).bind fun y319 => (if y319.length < 4398046511104 then ((frame_Stays.f k bt291.1 bt291.2.1 bt291.2.2.1 bt291.2.2.2.1 bt291.2.2.2.2.1 (y303 ++ [(⟨(⟨#[67, 111, 110, 110, 101, 99, 116, 105, 111, 110]⟩ : ByteArray), ((rdOf ByteArray.empty y286 (ji7)) ++ (⟨#[44]⟩ : ByteArray)) ++ (rdOf ByteArray.empty y286 (Int.tmod (wrap64 (a2)) 7))⟩ : S32)])).bind fun t325 => ((frame_Stays.f k bt291.1 bt291.2.1 bt291.2.2.1 bt291.2.2.2.1 bt291.2.2.2.2.1 (y309 ++ y313)).bind fun t326 => (if (t325 == t326) = true then ((frame_Stays.f k bt291.1 bt291.2.1 bt291.2.2.1 bt291.2.2.2.1 bt291.2.2.2.2.1 (y319 ++ [(⟨(⟨#[67, 111, 110, 110, 101, 99, 116, 105, 111, 110]⟩ : ByteArray), (⟨#[120, 44, 32, 99, 108, 111, 115, 101]⟩ : ByteArray)⟩ : S32)])).bind fun t327 => (if t327 = true then (none) else (if bt291.2.2.2.2.1 = 0 then (some true) else ((frame_Stays.f k (⟨#[]⟩ : ByteArray) (⟨#[]⟩ : ByteArray) 0 (⟨#[]⟩ : ByteArray) 1 ([] : List (S32))).bind fun t328 => (some t328))))) else (none)))) else (none))) else (none))))) else (none)) else (none)) else (none))) else (none))) else (none)) else (none)) else (none)) else (none)) = some r := by first | (rw [hji7] at H; exact H) | (simp only [hji7] at H ⊢; exact H)
  (try rw [hji7] at A5)
  by_cases c8 : 0 ≤ (ji7)
  ·rw [if_pos c8] at H
   have c8b0 : decide (0 ≤ (ji7)) = true := decide_eq_true c8
   clear c8
   by_cases c9 : (ji7) < (y286.length : Int)
   ·rw [if_pos c9] at H
    have c9b0 : decide ((ji7) < (y286.length : Int)) = true := decide_eq_true c9
    clear c9
    obtain ⟨ji10, hji10⟩ : ∃ j_ : Int, (Int.tmod (wrap64 (a2)) 7) = j_ := ⟨_, rfl⟩
    replace H : (if 0 ≤ (ji10) then (if (ji10) < (y286.length : Int) then ((lockagelaw06_Made.f k l0 a3).bind fun bt291 => (if ([] : List (S32)).length + bt291.2.2.2.2.2.length < 4398046511104 then ((some (([] : List (S32)) ++ bt291.2.2.2.2.2 : List (S32))).bind fun y303 => (if (rdOf ByteArray.empty y286 (ji7)).size + 1 ≤ 9223372036854775807 then (if ((rdOf ByteArray.empty y286 (ji7)) ++ (⟨#[44]⟩ : ByteArray)).size + (rdOf ByteArray.empty y286 (ji10)).size ≤ 9223372036854775807 then (if y303.length < 4398046511104 then ((some (([] : List (S32)) ++ bt291.2.2.2.2.2 : List (S32))).bind fun y309 => ((lockageref05_Lower.f k (rdOf ByteArray.empty y286 (ji10))).bind fun t312 => ((some (([(⟨(⟨#[99, 111, 110, 110, 101, 99, 116, 105, 111, 110]⟩ : ByteArray), t312⟩ : S32), (⟨(⟨#[67, 79, 78, 78, 69, 67, 84, 73, 79, 78]⟩ : ByteArray), rdOf ByteArray.empty y286 (ji7)⟩ : S32)] : List (S32)) : List (S32))).bind fun y313 => (if y309.length + y313.length < 4398046511104 then ((some (([] : List (S32)) ++ bt291.2.2.2.2.2 : List (S32))).bind fun y319 => (if y319.length < 4398046511104 then ((frame_Stays.f k bt291.1 bt291.2.1 bt291.2.2.1 bt291.2.2.2.1 bt291.2.2.2.2.1 (y303 ++ [(⟨(⟨#[67, 111, 110, 110, 101, 99, 116, 105, 111, 110]⟩ : ByteArray), ((rdOf ByteArray.empty y286 (ji7)) ++ (⟨#[44]⟩ : ByteArray)) ++ (rdOf ByteArray.empty y286 (ji10))⟩ : S32)])).bind fun t325 => ((frame_Stays.f k bt291.1 bt291.2.1 bt291.2.2.1 bt291.2.2.2.1 bt291.2.2.2.2.1 (y309 ++ y313)).bind fun t326 => (if (t325 == t326) = true then ((frame_Stays.f k bt291.1 bt291.2.1 bt291.2.2.1 bt291.2.2.2.1 bt291.2.2.2.2.1 (y319 ++ [(⟨(⟨#[67, 111, 110, 110, 101, 99, 116, 105, 111, 110]⟩ : ByteArray), (⟨#[120, 44, 32, 99, 108, 111, 115, 101]⟩ : ByteArray)⟩ : S32)])).bind fun t327 => (if t327 = true then (none) else (if bt291.2.2.2.2.1 = 0 then (some true) else ((frame_Stays.f k (⟨#[]⟩ : ByteArray) (⟨#[]⟩ : ByteArray) 0 (⟨#[]⟩ : ByteArray) 1 ([] : List (S32))).bind fun t328 => (some t328))))) else (none)))) else (none))) else (none))))) else (none)) else (none)) else (none))) else (none))) else (none)) else (none)) = some r := by first | (rw [hji10] at H; exact H) | (simp only [hji10] at H ⊢; exact H)
    (try rw [hji10] at A5)
    by_cases c11 : 0 ≤ (ji10)
    ·rw [if_pos c11] at H
     have c11b0 : decide (0 ≤ (ji10)) = true := decide_eq_true c11
     clear c11
     by_cases c12 : (ji10) < (y286.length : Int)
     ·rw [if_pos c12] at H
      have c12b0 : decide ((ji10) < (y286.length : Int)) = true := decide_eq_true c12
      clear c12
      replace H := Option.bind_eq_some_iff.mp H
      obtain ⟨⟨t291, t292, t293, t294, t295, t296⟩, A130, H⟩ := H
      try dsimp only at H
      have A13 := aM A130
      clear A130
      by_cases c14 : ([] : List (S32)).length + t296.length < 4398046511104
      ·rw [if_pos c14] at H
       have LMc14 := aM c14
       clear c14
       obtain ⟨y303, hy303⟩ : ∃ y_ : List (S32), y_ = (([] : List (S32)) ++ t296) := ⟨_, rfl⟩
       replace H : (if (rdOf ByteArray.empty y286 (ji7)).size + 1 ≤ 9223372036854775807 then (if ((rdOf ByteArray.empty y286 (ji7)) ++ (⟨#[44]⟩ : ByteArray)).size + (rdOf ByteArray.empty y286 (ji10)).size ≤ 9223372036854775807 then (if y303.length < 4398046511104 then ((some (([] : List (S32)) ++ t296 : List (S32))).bind fun y309 => ((lockageref05_Lower.f k (rdOf ByteArray.empty y286 (ji10))).bind fun t312 => ((some (([(⟨(⟨#[99, 111, 110, 110, 101, 99, 116, 105, 111, 110]⟩ : ByteArray), t312⟩ : S32), (⟨(⟨#[67, 79, 78, 78, 69, 67, 84, 73, 79, 78]⟩ : ByteArray), rdOf ByteArray.empty y286 (ji7)⟩ : S32)] : List (S32)) : List (S32))).bind fun y313 => (if y309.length + y313.length < 4398046511104 then ((some (([] : List (S32)) ++ t296 : List (S32))).bind fun y319 => (if y319.length < 4398046511104 then ((frame_Stays.f k t291 t292 t293 t294 t295 (y303 ++ [(⟨(⟨#[67, 111, 110, 110, 101, 99, 116, 105, 111, 110]⟩ : ByteArray), ((rdOf ByteArray.empty y286 (ji7)) ++ (⟨#[44]⟩ : ByteArray)) ++ (rdOf ByteArray.empty y286 (ji10))⟩ : S32)])).bind fun t325 => ((frame_Stays.f k t291 t292 t293 t294 t295 (y309 ++ y313)).bind fun t326 => (if (t325 == t326) = true then ((frame_Stays.f k t291 t292 t293 t294 t295 (y319 ++ [(⟨(⟨#[67, 111, 110, 110, 101, 99, 116, 105, 111, 110]⟩ : ByteArray), (⟨#[120, 44, 32, 99, 108, 111, 115, 101]⟩ : ByteArray)⟩ : S32)])).bind fun t327 => (if t327 = true then (none) else (if t295 = 0 then (some true) else ((frame_Stays.f k (⟨#[]⟩ : ByteArray) (⟨#[]⟩ : ByteArray) 0 (⟨#[]⟩ : ByteArray) 1 ([] : List (S32))).bind fun t328 => (some t328))))) else (none)))) else (none))) else (none))))) else (none)) else (none)) else (none)) = some r := by first | (rw [hy303]; with_reducible exact H) | (have H2_ := (Option.bind_some _ _).symm.trans H; rw [hy303]; with_reducible exact H2_) | (have H2_ := (Option.bind_some _ _).symm.trans H; with_reducible exact H2_) | with_reducible exact H | (rw [hy303]; exact H) | exact H
       have Ny303 := aM hy303
       clear hy303
       by_cases c15 : (rdOf ByteArray.empty y286 (ji7)).size + 1 ≤ 9223372036854775807
       ·rw [if_pos c15] at H
        have c15b0 := eq_true c15
        have c15b1 : decide ((rdOf ByteArray.empty y286 (ji7)).size + 1 ≤ 9223372036854775807) = true := decide_eq_true c15
        try have c15b2 : (9223372036854775807 < (rdOf ByteArray.empty y286 (ji7)).size + 1) = False := eq_false (Nat.not_lt.2 c15)
        by_cases c16 : ((rdOf ByteArray.empty y286 (ji7)) ++ (⟨#[44]⟩ : ByteArray)).size + (rdOf ByteArray.empty y286 (ji10)).size ≤ 9223372036854775807
        ·rw [if_pos c16] at H
         have c16b0 := eq_true c16
         have c16b1 : decide (((rdOf ByteArray.empty y286 (ji7)) ++ (⟨#[44]⟩ : ByteArray)).size + (rdOf ByteArray.empty y286 (ji10)).size ≤ 9223372036854775807) = true := decide_eq_true c16
         try have c16b2 : (9223372036854775807 < ((rdOf ByteArray.empty y286 (ji7)) ++ (⟨#[44]⟩ : ByteArray)).size + (rdOf ByteArray.empty y286 (ji10)).size) = False := eq_false (Nat.not_lt.2 c16)
         by_cases c17 : y303.length < 4398046511104
         ·rw [if_pos c17] at H
          have LMc17 := aM c17
          clear c17
          obtain ⟨y306, hy306⟩ : ∃ y_ : List (S32), y_ = (y303 ++ [(⟨(⟨#[67, 111, 110, 110, 101, 99, 116, 105, 111, 110]⟩ : ByteArray), ((rdOf ByteArray.empty y286 (ji7)) ++ (⟨#[44]⟩ : ByteArray)) ++ (rdOf ByteArray.empty y286 (ji10))⟩ : S32)]) := ⟨_, rfl⟩
          replace H : ((some (([] : List (S32)) ++ t296 : List (S32))).bind fun y309 => ((lockageref05_Lower.f k (rdOf ByteArray.empty y286 (ji10))).bind fun t312 => ((some (([(⟨(⟨#[99, 111, 110, 110, 101, 99, 116, 105, 111, 110]⟩ : ByteArray), t312⟩ : S32), (⟨(⟨#[67, 79, 78, 78, 69, 67, 84, 73, 79, 78]⟩ : ByteArray), rdOf ByteArray.empty y286 (ji7)⟩ : S32)] : List (S32)) : List (S32))).bind fun y313 => (if y309.length + y313.length < 4398046511104 then ((some (([] : List (S32)) ++ t296 : List (S32))).bind fun y319 => (if y319.length < 4398046511104 then ((frame_Stays.f k t291 t292 t293 t294 t295 y306).bind fun t325 => ((frame_Stays.f k t291 t292 t293 t294 t295 (y309 ++ y313)).bind fun t326 => (if (t325 == t326) = true then ((frame_Stays.f k t291 t292 t293 t294 t295 (y319 ++ [(⟨(⟨#[67, 111, 110, 110, 101, 99, 116, 105, 111, 110]⟩ : ByteArray), (⟨#[120, 44, 32, 99, 108, 111, 115, 101]⟩ : ByteArray)⟩ : S32)])).bind fun t327 => (if t327 = true then (none) else (if t295 = 0 then (some true) else ((frame_Stays.f k (⟨#[]⟩ : ByteArray) (⟨#[]⟩ : ByteArray) 0 (⟨#[]⟩ : ByteArray) 1 ([] : List (S32))).bind fun t328 => (some t328))))) else (none)))) else (none))) else (none))))) = some r := by first | (rw [hy306]; with_reducible exact H) | (have H2_ := (Option.bind_some _ _).symm.trans H; rw [hy306]; with_reducible exact H2_) | (have H2_ := (Option.bind_some _ _).symm.trans H; with_reducible exact H2_) | with_reducible exact H | (rw [hy306]; exact H) | exact H
          have Ny306 := aM hy306
          clear hy306
          obtain ⟨y309, hy309⟩ : ∃ y_ : List (S32), y_ = (([] : List (S32)) ++ t296) := ⟨_, rfl⟩
          replace H : ((lockageref05_Lower.f k (rdOf ByteArray.empty y286 (ji10))).bind fun t312 => ((some (([(⟨(⟨#[99, 111, 110, 110, 101, 99, 116, 105, 111, 110]⟩ : ByteArray), t312⟩ : S32), (⟨(⟨#[67, 79, 78, 78, 69, 67, 84, 73, 79, 78]⟩ : ByteArray), rdOf ByteArray.empty y286 (ji7)⟩ : S32)] : List (S32)) : List (S32))).bind fun y313 => (if y309.length + y313.length < 4398046511104 then ((some (([] : List (S32)) ++ t296 : List (S32))).bind fun y319 => (if y319.length < 4398046511104 then ((frame_Stays.f k t291 t292 t293 t294 t295 y306).bind fun t325 => ((frame_Stays.f k t291 t292 t293 t294 t295 (y309 ++ y313)).bind fun t326 => (if (t325 == t326) = true then ((frame_Stays.f k t291 t292 t293 t294 t295 (y319 ++ [(⟨(⟨#[67, 111, 110, 110, 101, 99, 116, 105, 111, 110]⟩ : ByteArray), (⟨#[120, 44, 32, 99, 108, 111, 115, 101]⟩ : ByteArray)⟩ : S32)])).bind fun t327 => (if t327 = true then (none) else (if t295 = 0 then (some true) else ((frame_Stays.f k (⟨#[]⟩ : ByteArray) (⟨#[]⟩ : ByteArray) 0 (⟨#[]⟩ : ByteArray) 1 ([] : List (S32))).bind fun t328 => (some t328))))) else (none)))) else (none))) else (none)))) = some r := by first | (rw [hy309]; with_reducible exact H) | (have H2_ := (Option.bind_some _ _).symm.trans H; rw [hy309]; with_reducible exact H2_) | (have H2_ := (Option.bind_some _ _).symm.trans H; with_reducible exact H2_) | with_reducible exact H | (rw [hy309]; exact H) | exact H
          have Ny309 := aM hy309
          clear hy309
          replace H := Option.bind_eq_some_iff.mp H
          obtain ⟨t312, A180, H⟩ := H
          try dsimp only at H
          have A18 := aM A180
          clear A180
          obtain ⟨y313, hy313⟩ : ∃ y_ : List (S32), y_ = (([(⟨(⟨#[99, 111, 110, 110, 101, 99, 116, 105, 111, 110]⟩ : ByteArray), t312⟩ : S32), (⟨(⟨#[67, 79, 78, 78, 69, 67, 84, 73, 79, 78]⟩ : ByteArray), rdOf ByteArray.empty y286 (ji7)⟩ : S32)] : List (S32))) := ⟨_, rfl⟩
          replace H : (if y309.length + y313.length < 4398046511104 then ((some (([] : List (S32)) ++ t296 : List (S32))).bind fun y319 => (if y319.length < 4398046511104 then ((frame_Stays.f k t291 t292 t293 t294 t295 y306).bind fun t325 => ((frame_Stays.f k t291 t292 t293 t294 t295 (y309 ++ y313)).bind fun t326 => (if (t325 == t326) = true then ((frame_Stays.f k t291 t292 t293 t294 t295 (y319 ++ [(⟨(⟨#[67, 111, 110, 110, 101, 99, 116, 105, 111, 110]⟩ : ByteArray), (⟨#[120, 44, 32, 99, 108, 111, 115, 101]⟩ : ByteArray)⟩ : S32)])).bind fun t327 => (if t327 = true then (none) else (if t295 = 0 then (some true) else ((frame_Stays.f k (⟨#[]⟩ : ByteArray) (⟨#[]⟩ : ByteArray) 0 (⟨#[]⟩ : ByteArray) 1 ([] : List (S32))).bind fun t328 => (some t328))))) else (none)))) else (none))) else (none)) = some r := by first | (rw [hy313]; with_reducible exact H) | (have H2_ := (Option.bind_some _ _).symm.trans H; rw [hy313]; with_reducible exact H2_) | (have H2_ := (Option.bind_some _ _).symm.trans H; with_reducible exact H2_) | with_reducible exact H | (rw [hy313]; exact H) | exact H
          have Ny313 := aM hy313
          clear hy313
          by_cases c19 : y309.length + y313.length < 4398046511104
          ·rw [if_pos c19] at H
           have LMc19 := aM c19
           clear c19
           obtain ⟨y316, hy316⟩ : ∃ y_ : List (S32), y_ = (y309 ++ y313) := ⟨_, rfl⟩
           replace H : ((some (([] : List (S32)) ++ t296 : List (S32))).bind fun y319 => (if y319.length < 4398046511104 then ((frame_Stays.f k t291 t292 t293 t294 t295 y306).bind fun t325 => ((frame_Stays.f k t291 t292 t293 t294 t295 y316).bind fun t326 => (if (t325 == t326) = true then ((frame_Stays.f k t291 t292 t293 t294 t295 (y319 ++ [(⟨(⟨#[67, 111, 110, 110, 101, 99, 116, 105, 111, 110]⟩ : ByteArray), (⟨#[120, 44, 32, 99, 108, 111, 115, 101]⟩ : ByteArray)⟩ : S32)])).bind fun t327 => (if t327 = true then (none) else (if t295 = 0 then (some true) else ((frame_Stays.f k (⟨#[]⟩ : ByteArray) (⟨#[]⟩ : ByteArray) 0 (⟨#[]⟩ : ByteArray) 1 ([] : List (S32))).bind fun t328 => (some t328))))) else (none)))) else (none))) = some r := by first | (rw [hy316]; with_reducible exact H) | (have H2_ := (Option.bind_some _ _).symm.trans H; rw [hy316]; with_reducible exact H2_) | (have H2_ := (Option.bind_some _ _).symm.trans H; with_reducible exact H2_) | with_reducible exact H | (rw [hy316]; exact H) | exact H
           have Ny316 := aM hy316
           clear hy316
           obtain ⟨y319, hy319⟩ : ∃ y_ : List (S32), y_ = (([] : List (S32)) ++ t296) := ⟨_, rfl⟩
           replace H : (if y319.length < 4398046511104 then ((frame_Stays.f k t291 t292 t293 t294 t295 y306).bind fun t325 => ((frame_Stays.f k t291 t292 t293 t294 t295 y316).bind fun t326 => (if (t325 == t326) = true then ((frame_Stays.f k t291 t292 t293 t294 t295 (y319 ++ [(⟨(⟨#[67, 111, 110, 110, 101, 99, 116, 105, 111, 110]⟩ : ByteArray), (⟨#[120, 44, 32, 99, 108, 111, 115, 101]⟩ : ByteArray)⟩ : S32)])).bind fun t327 => (if t327 = true then (none) else (if t295 = 0 then (some true) else ((frame_Stays.f k (⟨#[]⟩ : ByteArray) (⟨#[]⟩ : ByteArray) 0 (⟨#[]⟩ : ByteArray) 1 ([] : List (S32))).bind fun t328 => (some t328))))) else (none)))) else (none)) = some r := by first | (rw [hy319]; with_reducible exact H) | (have H2_ := (Option.bind_some _ _).symm.trans H; rw [hy319]; with_reducible exact H2_) | (have H2_ := (Option.bind_some _ _).symm.trans H; with_reducible exact H2_) | with_reducible exact H | (rw [hy319]; exact H) | exact H
           have Ny319 := aM hy319
           clear hy319
           by_cases c20 : y319.length < 4398046511104
           ·rw [if_pos c20] at H
            have LMc20 := aM c20
            clear c20
            obtain ⟨y322, hy322⟩ : ∃ y_ : List (S32), y_ = (y319 ++ [(⟨(⟨#[67, 111, 110, 110, 101, 99, 116, 105, 111, 110]⟩ : ByteArray), (⟨#[120, 44, 32, 99, 108, 111, 115, 101]⟩ : ByteArray)⟩ : S32)]) := ⟨_, rfl⟩
            replace H : ((frame_Stays.f k t291 t292 t293 t294 t295 y306).bind fun t325 => ((frame_Stays.f k t291 t292 t293 t294 t295 y316).bind fun t326 => (if (t325 == t326) = true then ((frame_Stays.f k t291 t292 t293 t294 t295 y322).bind fun t327 => (if t327 = true then (none) else (if t295 = 0 then (some true) else ((frame_Stays.f k (⟨#[]⟩ : ByteArray) (⟨#[]⟩ : ByteArray) 0 (⟨#[]⟩ : ByteArray) 1 ([] : List (S32))).bind fun t328 => (some t328))))) else (none)))) = some r := by first | (rw [hy322]; with_reducible exact H) | (have H2_ := (Option.bind_some _ _).symm.trans H; rw [hy322]; with_reducible exact H2_) | (have H2_ := (Option.bind_some _ _).symm.trans H; with_reducible exact H2_) | with_reducible exact H | (rw [hy322]; exact H) | exact H
            have Ny322 := aM hy322
            clear hy322
            replace H := Option.bind_eq_some_iff.mp H
            obtain ⟨t325, A210, H⟩ := H
            try dsimp only at H
            have A21 := aM A210
            clear A210
            replace H := Option.bind_eq_some_iff.mp H
            obtain ⟨t326, A220, H⟩ := H
            try dsimp only at H
            have A22 := aM A220
            clear A220
            by_cases c23 : (t325 == t326) = true
            ·rw [if_pos c23] at H
             have c23b0 : (t325 == t326) = true := c23
             (try (have c23b1 : decide (t325 = t326) = true := by simpa using c23))
             (try (have c23b2 : (t325 == t326) = true := by simpa using c23))
             clear c23
             replace H := Option.bind_eq_some_iff.mp H
             obtain ⟨t327, A240, H⟩ := H
             try dsimp only at H
             have A24 := aM A240
             clear A240
             by_cases c25 : t327 = true
             ·subst c25
              have H1 : (none) = some r := by rw [if_pos rfl] at H; exact H
              clear H
              have H := H1
              clear H1
              exact absurd H (by simp)
             ·replace c25 := Bool.eq_false_iff.mpr c25
              subst c25
              have H1 : (if t295 = 0 then (some true) else ((frame_Stays.f k (⟨#[]⟩ : ByteArray) (⟨#[]⟩ : ByteArray) 0 (⟨#[]⟩ : ByteArray) 1 ([] : List (S32))).bind fun t328 => (some t328))) = some r := by rw [if_neg (show ¬ (false = true) by decide)] at H; exact H
              clear H
              have H := H1
              clear H1
              by_cases c26 : t295 = 0
              ·exact absurd c26 (hb_.out _ _ _ _ _ _ A13.out)
              ·rw [if_neg c26] at H
               have c26b0 : (t295 == 0) = false := beq_eq_false_iff_ne.mpr c26
               have c26b1 : (t295 != 0) = true := bne_iff_ne.mpr c26
               replace H := Option.bind_eq_some_iff.mp H
               obtain ⟨t328, A900, H⟩ := H
               try dsimp only at H
               have A90 := aM A900
               clear A900
               obtain rfl := Option.some.inj H
               go_enter Tryd.func7, Tryd.ntmps7
               try go_wp2_with (first | ((with_reducible refine gate_callee (f := 10) rfl ?_); refine goesL_ (some 17) rfl rfl Tryd.func10 (by kernel_rfl) rfl #[] rfl (by (try simp only [List.map_toArray, List.map_cons, List.map_nil]); first | done | rfl | (simp only [List.length_drop, List.length_take]; rfl)) ?_; (with_reducible refine (lockagelaw07_awake.calls k  true _ A5.out).mono ?_); rintro e w91 ⟨rfl, hb⟩; refine ⟨_, rfl, ?_⟩; have n0_ := aM (below_step (by repeat (first | (with_reducible first | exact HB.out | apply lA | apply lN | apply lD) | exact HB.out)) hb); clear HB; have HB := n0_; clear n0_; (try clear hb); (try clear hb2); (try clear hk); (try clear hi)) | ((with_reducible refine gate_dst (N := 20) rfl ?_); refine Kd.R_lit Kd.string _ 9 ?hg (N := 20) ?hd (xs := ([(⟨#[99, 108, 111, 115, 101]⟩ : ByteArray), (⟨#[107, 101, 101, 112, 45, 97, 108, 105, 118, 101]⟩ : ByteArray), (⟨#[97]⟩ : ByteArray), (⟨#[]⟩ : ByteArray), (⟨#[99, 108, 111, 115, 101, 100]⟩ : ByteArray), (⟨#[67, 76, 79, 83, 69]⟩ : ByteArray), (⟨#[75, 101, 101, 112, 45, 65, 108, 105, 118, 101]⟩ : ByteArray)] : List ByteArray)) (inner := [.string (⟨#[99, 108, 111, 115, 101]⟩ : ByteArray), .string (⟨#[107, 101, 101, 112, 45, 97, 108, 105, 118, 101]⟩ : ByteArray), .string (⟨#[97]⟩ : ByteArray), .string (⟨#[]⟩ : ByteArray), .string (⟨#[99, 108, 111, 115, 101, 100]⟩ : ByteArray), .string (⟨#[67, 76, 79, 83, 69]⟩ : ByteArray), .string (⟨#[75, 101, 101, 112, 45, 65, 108, 105, 118, 101]⟩ : ByteArray)]) (ok := fun _ => True) (okp := fun _ => True) ?hr ?hp (fun _ hk => hk) trivial (Below.refl _ _) (Nat.le_refl _) (by simp) ?_; (case hd => rfl); (case hg => rfl); (case hr => first | (go_simp; done) | (go_simp; rfl)); (case hp => exact (Reps.one (show Kd.M Kd.string _ _ _ (⟨#[99, 108, 111, 115, 101]⟩ : ByteArray) [.string (⟨#[99, 108, 111, 115, 101]⟩ : ByteArray)] from rfl) (Reps.one (show Kd.M Kd.string _ _ _ (⟨#[107, 101, 101, 112, 45, 97, 108, 105, 118, 101]⟩ : ByteArray) [.string (⟨#[107, 101, 101, 112, 45, 97, 108, 105, 118, 101]⟩ : ByteArray)] from rfl) (Reps.one (show Kd.M Kd.string _ _ _ (⟨#[97]⟩ : ByteArray) [.string (⟨#[97]⟩ : ByteArray)] from rfl) (Reps.one (show Kd.M Kd.string _ _ _ (⟨#[]⟩ : ByteArray) [.string (⟨#[]⟩ : ByteArray)] from rfl) (Reps.one (show Kd.M Kd.string _ _ _ (⟨#[99, 108, 111, 115, 101, 100]⟩ : ByteArray) [.string (⟨#[99, 108, 111, 115, 101, 100]⟩ : ByteArray)] from rfl) (Reps.one (show Kd.M Kd.string _ _ _ (⟨#[67, 76, 79, 83, 69]⟩ : ByteArray) [.string (⟨#[67, 76, 79, 83, 69]⟩ : ByteArray)] from rfl) (Reps.one (show Kd.M Kd.string _ _ _ (⟨#[75, 101, 101, 112, 45, 65, 108, 105, 118, 101]⟩ : ByteArray) [.string (⟨#[75, 101, 101, 112, 45, 65, 108, 105, 118, 101]⟩ : ByteArray)] from rfl) (Reps.none _ _))))))))); intro v287 w92 ho93 hb hg_ hnew_; clear hg_ hnew_; (first | rw [← Ny286.out] at ho93 | (simp only [Int.reduceToNat] at ho93; rw [← Ny286.out] at ho93)); have n0_ := aM (Kd.R_lower ho93 (below_size (by repeat (first | (with_reducible first | exact HB.out | apply lA | apply lN | apply lD) | exact HB.out)))); have n1_ := aM (below_step (by repeat (first | (with_reducible first | exact HB.out | apply lA | apply lN | apply lD) | exact HB.out)) hb); clear HB; have HO288 := n0_; have HB := n1_; clear n0_ n1_; clear hb ho93))
               have n0_ := aM (rD HO288.out)
               have n1_ := aM (lD HB.out)
               clear HO288
               clear HB
               have HO288 := n0_
               have HB := n1_
               clear n0_ n1_
               obtain ⟨Ao95, co95, eo95⟩ := Kd.R_slice HO288.out
               (first | subst eo95 | (injection eo95 with f1_ f2_ f3_; have f4_ := f1_.symm; have f5_ := f3_.symm; clear f1_ f2_ f3_; subst f4_; subst f5_))
               have p289 : 0 ≤ ((ji7) : Int) := of_decide_eq_true (by first | (with_reducible assumption) | assumption)
               have q289 : (ji7) < (y286.length : Int) := of_decide_eq_true (by first | (with_reducible assumption) | assumption)
               obtain ⟨ad289, e289, hx289_0⟩ := Kd.at_string (Kd.R_reads' HO288.out).2.2 (ji7) p289 q289
               cases e289
               replace p289 := eq_true p289
               replace q289 := eq_true q289
               have p290 : 0 ≤ ((ji10) : Int) := of_decide_eq_true (by first | (with_reducible assumption) | assumption)
               have q290 : (ji10) < (y286.length : Int) := of_decide_eq_true (by first | (with_reducible assumption) | assumption)
               obtain ⟨ad290, e290, hx290_0⟩ := Kd.at_string (Kd.R_reads' HO288.out).2.2 (ji10) p290 q290
               obtain rfl : ad289 = ad290 := (by injection e290)
               replace p290 := eq_true p290
               replace q290 := eq_true q290
               refine start_ (n := 14) (S := fun w' => w'.cell? (ad289.add ((ji7)).toNat) = some (.string (rdOf ByteArray.empty y286 (ji7))) ∧ w'.cell? (ad289.add ((ji10)).toNat) = some (.string (rdOf ByteArray.empty y286 (ji10)))) (ds := []) #[false, false, false, false, false, false, false, false, false, false, false, false, false, false] (by kernel_rfl) rfl rfl ⟨hx289_0, hx290_0⟩ (fun hHeld => ?_); refine with_tabW lockagelaw07_FrameStays.tab5 lockagelaw07_FrameStays.bits5 (fun HT_ HW_ => ?_)
               generalize w92.drew = w94 at HO288 HB hx289_0 hx290_0 hHeld ⊢
               refine pure_ (i := 0) (N := some 21) (v := ?_) (a' := ?_) #[true, false, false, false, false, false, false, false, false, false, false, false, false, false] rfl rfl (any_of HT_.out (by kernel_rfl)) (fun _ _ _ h => h) (Or.inl ⟨by rfl, ?_⟩) ?_ ?_
               rotate_left
               ·intro w'
                go_simp
                with_reducible rfl
               rotate_left
               ·simp only [Act.put, List.setIfInBounds_toArray, List.set_cons_zero, List.set_cons_succ, i64_w, i32_w]
                rfl
               refine pure_ (i := 1) (N := some 22) (v := ?_) (a' := ?_) #[true, true, false, false, false, false, false, false, false, false, false, false, false, false] rfl rfl (any_of HT_.out (by kernel_rfl)) (fun _ _ _ h => h) (Or.inl ⟨by rfl, ?_⟩) ?_ ?_
               rotate_left
               ·intro w'
                go_simp
                with_reducible rfl
               rotate_left
               ·simp only [Act.put, List.setIfInBounds_toArray, List.set_cons_zero, List.set_cons_succ, i64_w, i32_w]
                rfl
               refine pure_ (i := 2) (N := some 23) (v := ?_) (a' := ?_) #[true, true, true, false, false, false, false, false, false, false, false, false, false, false] rfl rfl (any_of HT_.out (by kernel_rfl)) (fun _ _ _ h => h) (Or.inl ⟨by rfl, ?_⟩) ?_ ?_
               rotate_left
               ·intro w'
                go_simp
                with_reducible rfl
               rotate_left
               ·simp only [Act.put, List.setIfInBounds_toArray, List.set_cons_zero, List.set_cons_succ, i64_w, i32_w]
                rfl
               refine pure_ (i := 3) (N := some 24) (v := ?_) (a' := ?_) #[true, true, true, true, false, false, false, false, false, false, false, false, false, false] rfl rfl (any_of HT_.out (by kernel_rfl)) (fun _ _ _ h => h) (Or.inl ⟨by rfl, ?_⟩) ?_ ?_
               rotate_left
               ·intro w'
                go_simp
                with_reducible rfl
               rotate_left
               ·simp only [Act.put, List.setIfInBounds_toArray, List.set_cons_zero, List.set_cons_succ, i64_w, i32_w]
                rfl
               refine pure_ (i := 4) (N := some 25) (v := ?_) (a' := ?_) #[true, true, true, true, true, false, false, false, false, false, false, false, false, false] rfl rfl (any_of HT_.out (by kernel_rfl)) (fun _ _ _ h => h) (Or.inl ⟨by rfl, ?_⟩) ?_ ?_
               rotate_left
               ·intro w'
                go_simp
                with_reducible rfl
               rotate_left
               ·simp only [Act.put, List.setIfInBounds_toArray, List.set_cons_zero, List.set_cons_succ, i64_w, i32_w]
                rfl
               refine pure_ (i := 6) (N := some 27) (v := ?_) (a' := ?_) #[true, true, true, true, true, false, true, false, false, false, false, false, false, false] rfl rfl (any_of HT_.out (by kernel_rfl)) (fun _ _ _ h => h) (Or.inl ⟨by rfl, ?_⟩) ?_ ?_
               rotate_left
               ·intro w'
                go_simp
                with_reducible rfl
               rotate_left
               ·simp only [Act.put, List.setIfInBounds_toArray, List.set_cons_zero, List.set_cons_succ, i64_w, i32_w]
                rfl
               refine pure_ (i := 7) (N := some 28) (v := ?_) (a' := ?_) #[true, true, true, true, true, false, true, true, false, false, false, false, false, false] rfl rfl (any_of HT_.out (by kernel_rfl)) (fun _ _ _ h => h) (Or.inl ⟨by rfl, ?_⟩) ?_ ?_
               rotate_left
               ·intro w'
                go_simp
                with_reducible rfl
               rotate_left
               ·simp only [Act.put, List.setIfInBounds_toArray, List.set_cons_zero, List.set_cons_succ, i64_w, i32_w]
                rfl
               refine pure_ (i := 8) (N := some 29) (v := ?_) (a' := ?_) #[true, true, true, true, true, false, true, true, true, false, false, false, false, false] rfl rfl (any_of HT_.out (by kernel_rfl)) (fun _ _ _ h => h) (Or.inl ⟨by rfl, ?_⟩) ?_ ?_
               rotate_left
               ·intro w'
                go_simp
                with_reducible rfl
               rotate_left
               ·simp only [Act.put, List.setIfInBounds_toArray, List.set_cons_zero, List.set_cons_succ, i64_w, i32_w]
                rfl
               refine pure_ (i := 9) (N := some 30) (v := ?_) (a' := ?_) #[true, true, true, true, true, false, true, true, true, true, false, false, false, false] rfl rfl (any_of HT_.out (by kernel_rfl)) (fun _ _ _ h => h) (Or.inl ⟨by rfl, ?_⟩) ?_ ?_
               rotate_left
               ·intro w'
                go_simp
                with_reducible rfl
               rotate_left
               ·simp only [Act.put, List.setIfInBounds_toArray, List.set_cons_zero, List.set_cons_succ, i64_w, i32_w]
                rfl
               refine pure_ (i := 10) (N := some 31) (v := ?_) (a' := ?_) #[true, true, true, true, true, false, true, true, true, true, true, false, false, false] rfl rfl (any_of HT_.out (by kernel_rfl)) (fun _ _ _ h => h) (Or.inl ⟨by rfl, ?_⟩) ?_ ?_
               rotate_left
               ·intro w'
                go_simp
                with_reducible rfl
               rotate_left
               ·simp only [Act.put, List.setIfInBounds_toArray, List.set_cons_zero, List.set_cons_succ, i64_w, i32_w]
                rfl
               refine take_ (i := 5) (N := some 26) (v := ?_) (a' := ?_) #[true, true, true, true, true, true, true, true, true, true, true, false, false, false] rfl rfl (take_ofW HT_.out HW_.out (by kernel_rfl)) (fun _ _ _ h => h) (Or.inl ⟨by rfl, ?_⟩) hHeld ?_ ?_
               rotate_left
               ·rintro w' ⟨s0, s1⟩
                go_simp
                with_reducible rfl
               rotate_left
               ·simp only [Act.put, List.setIfInBounds_toArray, List.set_cons_zero, List.set_cons_succ, i64_w, i32_w]
                rfl
               refine pure_ (i := 12) (N := some 11) (v := ?_) (a' := ?_) #[true, true, true, true, true, true, true, true, true, true, true, false, true, false] rfl rfl (any_of HT_.out (by kernel_rfl)) (fun _ _ _ h => h) (Or.inl ⟨by rfl, ?_⟩) ?_ ?_
               rotate_left
               ·intro w'
                go_simp
                with_reducible rfl
               rotate_left
               ·simp only [Act.put, List.setIfInBounds_toArray, List.set_cons_zero, List.set_cons_succ, i64_w, i32_w]
                rfl
               refine take_ (i := 11) (N := some 32) (v := ?_) (a' := ?_) #[true, true, true, true, true, true, true, true, true, true, true, true, true, false] rfl rfl (take_ofW HT_.out HW_.out (by kernel_rfl)) (fun _ _ _ h => h) (Or.inl ⟨by rfl, ?_⟩) hHeld ?_ ?_
               rotate_left
               ·rintro w' ⟨s0, s1⟩
                go_simp
                with_reducible rfl
               rotate_left
               ·simp only [Act.put, List.setIfInBounds_toArray, List.set_cons_zero, List.set_cons_succ, i64_w, i32_w]
                rfl
               refine pure_ (i := 13) (N := some 12) (v := ?_) (a' := ?_) #[true, true, true, true, true, true, true, true, true, true, true, true, true, true] rfl rfl (any_of HT_.out (by kernel_rfl)) (fun _ _ _ h => h) (Or.inl ⟨by rfl, ?_⟩) ?_ ?_
               rotate_left
               ·intro w'
                go_simp
                with_reducible rfl
               rotate_left
               ·simp only [Act.put, List.setIfInBounds_toArray, List.set_cons_zero, List.set_cons_succ, i64_w, i32_w]
                rfl
               refine done_ (done_of HT_.out (by kernel_rfl)) ?_
               try go_wp2_with (first | ((with_reducible refine gate_callee (f := 8) rfl ?_); refine goesL_ (some 35) rfl rfl Tryd.func8 (by kernel_rfl) rfl #[.slice A0 l0.length c0, .bool a3] rfl (by (try simp only [List.map_toArray, List.map_cons, List.map_nil]); first | done | rfl | (simp only [List.length_drop, List.length_take]; rfl)) ?_; (with_reducible refine (lockagelaw06_Made.calls k _ _ l0 a3 t291 t292 t293 t294 t295 t296 _ ?side1 ?side2 A13.out).mono ?_); (case side1 => repeat (first | exact (Kd.C_below HR0.out HB.out) | (with_reducible refine Kd.C_alloc ?_ _) | (with_reducible refine Kd.C_drewN ?_ _) | (with_reducible refine Kd.C_drew ?_))); (case side2 => exact HC0.out); rintro e w96 ⟨v297, rfl, ho0, hb⟩; refine ⟨_, rfl, ?_⟩; have n0_ := aM (Kd.R_below (by (with_reducible repeat (first | apply rA | apply rN | apply rD)); exact HO288.out) hb); have n1_ := aM (Kd.R_lower ho0 (below_size (by repeat (first | (with_reducible first | exact HB.out | apply lA | apply lN | apply lD) | exact HB.out)))); have n2_ := aM (below_step (by repeat (first | (with_reducible first | exact HB.out | apply lA | apply lN | apply lD) | exact HB.out)) hb); clear HO288; clear HB; have HO288 := n0_; have HO298 := n1_; have HB := n2_; clear n0_ n1_ n2_; (try clear hb); (try clear hb2); (try clear hk); (try clear hi); (try clear ho0)) | ((with_reducible refine gate_dst (N := 13) rfl ?_); refine box_event ?hg (N := 13) ?hd (cs := #[.string (⟨#[]⟩ : ByteArray), .string (⟨#[]⟩ : ByteArray), .int .i64 0, .string (⟨#[]⟩ : ByteArray), .int .i64 0, .slice none 0 0]) (t := 25) ?hr ?_; (case hd => rfl); (case hg => rfl); (case hr => first | (go_simp; done) | (go_simp; rfl)); intro gb299 hg w97 hbox hb; have n0_ := aM (Kd.R_below (by (with_reducible repeat (first | apply rA | apply rN | apply rD)); exact HO288.out) hb); have n1_ := aM (Kd.R_below (by (with_reducible repeat (first | apply rA | apply rN | apply rD)); exact HO298.out) hb); have n2_ := aM (below_step (by repeat (first | (with_reducible first | exact HB.out | apply lA | apply lN | apply lD) | exact HB.out)) hb); have n3_ := aM (hbox); have n4_ := aM ((by rw [hg]; exact (below_size (by repeat (first | (with_reducible first | exact HB.out | apply lA | apply lN | apply lD) | exact HB.out))) : w.heap.size ≤ gb299)); have n5_ := aM ((by rw [hg]; exact (below_size (by repeat (first | (with_reducible first | exact HB.out | apply lA | apply lN | apply lD) | exact HB.out))) : w.heap.size ≤ gb299)); clear HO288; clear HO298; clear HB; have HO288 := n0_; have HO298 := n1_; have HB := n2_; have BK299 := n3_; have GW299 := n4_; have GE299 := n5_; clear n0_ n1_ n2_ n3_ n4_ n5_; clear hb hbox hg; have hcz98_0 : w97.cell? ⟨gb299, 0, none⟩ = some (.string (⟨#[]⟩ : ByteArray)) := (blk_cell BK299.out 0).trans rfl; have hcz98_1 : w97.cell? ⟨gb299, 1, none⟩ = some (.string (⟨#[]⟩ : ByteArray)) := (blk_cell BK299.out 1).trans rfl; have hcz98_2 : w97.cell? ⟨gb299, 2, none⟩ = some (.int .i64 0) := (blk_cell BK299.out 2).trans rfl; have hcz98_3 : w97.cell? ⟨gb299, 3, none⟩ = some (.string (⟨#[]⟩ : ByteArray)) := (blk_cell BK299.out 3).trans rfl; have hcz98_4 : w97.cell? ⟨gb299, 4, none⟩ = some (.int .i64 0) := (blk_cell BK299.out 4).trans rfl; have hcz98_5 : w97.cell? ⟨gb299, 5, none⟩ = some (.slice none 0 0) := (blk_cell BK299.out 5).trans rfl; have hfz98_0 := blk_frozen BK299.out 0; have hfz98_1 := blk_frozen BK299.out 1; have hfz98_2 := blk_frozen BK299.out 2; have hfz98_3 := blk_frozen BK299.out 3; have hfz98_4 := blk_frozen BK299.out 4; have hfz98_5 := blk_frozen BK299.out 5; obtain ⟨Ao99, co99, eo99⟩ := Kd.R_slice HO298.out; subst eo99))
               have n0_ : Aside0 (Kd.R Kd.string 9 ((((((w97.setCell ⟨gb299, 0, none⟩ (.string t291)).setCell ⟨gb299, 1, none⟩ (.string t292)).setCell ⟨gb299, 2, none⟩ (.int .i64 t293)).setCell ⟨gb299, 3, none⟩ (.string t294)).setCell ⟨gb299, 4, none⟩ (.int .i64 t295)).setCell ⟨gb299, 5, none⟩ (.slice Ao99 t296.length co99)) w.heap.size (fun _ => True) (.slice (some ad289) y286.length co95) y286) := ⟨by (with_reducible repeat (first | apply rA | apply rN | apply rD)); exact Kd.R_mono (Kd.R_far (p := ⟨gb299, 5, none⟩) (Kd.R_far (p := ⟨gb299, 4, none⟩) (Kd.R_far (p := ⟨gb299, 3, none⟩) (Kd.R_far (p := ⟨gb299, 2, none⟩) (Kd.R_far (p := ⟨gb299, 1, none⟩) (Kd.R_far (p := ⟨gb299, 0, none⟩) (Kd.R_types HO288.out BK299.out (by decide)) (fun _ hk => hk.2) (.string t291)) (fun _ hk => hk.2) (.string t292)) (fun _ hk => hk.2) (.int .i64 t293)) (fun _ hk => hk.2) (.string t294)) (fun _ hk => hk.2) (.int .i64 t295)) (fun _ hk => hk.2) (.slice Ao99 t296.length co99)) (fun _ hk => trivial)⟩
               have n1_ : Aside0 (Kd.R k32 32 ((((((w97.setCell ⟨gb299, 0, none⟩ (.string t291)).setCell ⟨gb299, 1, none⟩ (.string t292)).setCell ⟨gb299, 2, none⟩ (.int .i64 t293)).setCell ⟨gb299, 3, none⟩ (.string t294)).setCell ⟨gb299, 4, none⟩ (.int .i64 t295)).setCell ⟨gb299, 5, none⟩ (.slice Ao99 t296.length co99)) w.heap.size (fun _ => True) (.slice Ao99 t296.length co99) t296) := ⟨by (with_reducible repeat (first | apply rA | apply rN | apply rD)); exact Kd.R_mono (Kd.R_far (p := ⟨gb299, 5, none⟩) (Kd.R_far (p := ⟨gb299, 4, none⟩) (Kd.R_far (p := ⟨gb299, 3, none⟩) (Kd.R_far (p := ⟨gb299, 2, none⟩) (Kd.R_far (p := ⟨gb299, 1, none⟩) (Kd.R_far (p := ⟨gb299, 0, none⟩) (Kd.R_types HO298.out BK299.out (by decide)) (fun _ hk => hk.2) (.string t291)) (fun _ hk => hk.2) (.string t292)) (fun _ hk => hk.2) (.int .i64 t293)) (fun _ hk => hk.2) (.string t294)) (fun _ hk => hk.2) (.int .i64 t295)) (fun _ hk => hk.2) (.slice Ao99 t296.length co99)) (fun _ hk => trivial)⟩
               have n2_ : Aside0 (((((((w97.setCell ⟨gb299, 0, none⟩ (.string t291)).setCell ⟨gb299, 1, none⟩ (.string t292)).setCell ⟨gb299, 2, none⟩ (.int .i64 t293)).setCell ⟨gb299, 3, none⟩ (.string t294)).setCell ⟨gb299, 4, none⟩ (.int .i64 t295)).setCell ⟨gb299, 5, none⟩ (.slice Ao99 t296.length co99)).heap[gb299]? = some (.cells #[.string t291, .string t292, .int .i64 t293, .string t294, .int .i64 t295, .slice Ao99 t296.length co99] 25 (0, 0))) := ⟨by (with_reducible repeat (first | refine bN ?_ _ | refine bD ?_ | refine bA ?_ _)); refine blk_put (cs := #[.string t291, .string t292, .int .i64 t293, .string t294, .int .i64 t295, .slice none 0 0]) ?_ 5 _ rfl; (with_reducible repeat (first | refine bN ?_ _ | refine bD ?_ | refine bA ?_ _)); refine blk_put (cs := #[.string t291, .string t292, .int .i64 t293, .string t294, .int .i64 0, .slice none 0 0]) ?_ 4 _ rfl; (with_reducible repeat (first | refine bN ?_ _ | refine bD ?_ | refine bA ?_ _)); refine blk_put (cs := #[.string t291, .string t292, .int .i64 t293, .string (⟨#[]⟩ : ByteArray), .int .i64 0, .slice none 0 0]) ?_ 3 _ rfl; (with_reducible repeat (first | refine bN ?_ _ | refine bD ?_ | refine bA ?_ _)); refine blk_put (cs := #[.string t291, .string t292, .int .i64 0, .string (⟨#[]⟩ : ByteArray), .int .i64 0, .slice none 0 0]) ?_ 2 _ rfl; (with_reducible repeat (first | refine bN ?_ _ | refine bD ?_ | refine bA ?_ _)); refine blk_put (cs := #[.string t291, .string (⟨#[]⟩ : ByteArray), .int .i64 0, .string (⟨#[]⟩ : ByteArray), .int .i64 0, .slice none 0 0]) ?_ 1 _ rfl; (with_reducible repeat (first | refine bN ?_ _ | refine bD ?_ | refine bA ?_ _)); refine blk_put (cs := #[.string (⟨#[]⟩ : ByteArray), .string (⟨#[]⟩ : ByteArray), .int .i64 0, .string (⟨#[]⟩ : ByteArray), .int .i64 0, .slice none 0 0]) ?_ 0 _ rfl; (with_reducible repeat (first | refine bN ?_ _ | refine bD ?_ | refine bA ?_ _)); exact BK299.out⟩
               have n3_ : Aside0 (Below w.heap.size w ((((((w97.setCell ⟨gb299, 0, none⟩ (.string t291)).setCell ⟨gb299, 1, none⟩ (.string t292)).setCell ⟨gb299, 2, none⟩ (.int .i64 t293)).setCell ⟨gb299, 3, none⟩ (.string t294)).setCell ⟨gb299, 4, none⟩ (.int .i64 t295)).setCell ⟨gb299, 5, none⟩ (.slice Ao99 t296.length co99))) := ⟨by repeat (first | (with_reducible first | exact HB.out | apply lA | apply lN | apply lD | refine below_set ?_ GE299.out) | exact HB.out)⟩
               (try clear HO288)
               (try clear HO298)
               (try clear BK299)
               (try clear HB)
               generalize ((((((w97.setCell ⟨gb299, 0, none⟩ (.string t291)).setCell ⟨gb299, 1, none⟩ (.string t292)).setCell ⟨gb299, 2, none⟩ (.int .i64 t293)).setCell ⟨gb299, 3, none⟩ (.string t294)).setCell ⟨gb299, 4, none⟩ (.int .i64 t295)).setCell ⟨gb299, 5, none⟩ (.slice Ao99 t296.length co99)) = w100 at n0_ n1_ n2_ n3_ ⊢
               have HO288 := n0_
               have HO298 := n1_
               have BK299 := n2_
               have HB := n3_
               clear n0_ n1_ n2_ n3_
               have n0_ := aM (rD HO288.out)
               have n1_ := aM (rD HO298.out)
               have n2_ := aM (bD BK299.out)
               have n3_ := aM (lD HB.out)
               clear HO288
               clear HO298
               clear BK299
               clear HB
               have HO288 := n0_
               have HO298 := n1_
               have BK299 := n2_
               have HB := n3_
               clear n0_ n1_ n2_ n3_
               refine start_ (n := 9) (S := fun w' => w'.cell? ⟨gb299, 0, none⟩ = some (.string t291) ∧ w'.cell? ⟨gb299, 1, none⟩ = some (.string t292) ∧ w'.cell? ⟨gb299, 2, none⟩ = some (.int .i64 t293) ∧ w'.cell? ⟨gb299, 3, none⟩ = some (.string t294) ∧ w'.cell? ⟨gb299, 4, none⟩ = some (.int .i64 t295) ∧ w'.cell? ⟨gb299, 5, none⟩ = some (.slice Ao99 t296.length co99)) (ds := []) #[false, false, false, false, false, false, false, false, false] (by kernel_rfl) rfl rfl ⟨(blk_cell BK299.out 0).trans rfl, (blk_cell BK299.out 1).trans rfl, (blk_cell BK299.out 2).trans rfl, (blk_cell BK299.out 3).trans rfl, (blk_cell BK299.out 4).trans rfl, (blk_cell BK299.out 5).trans rfl⟩ (fun hHeld => ?_); refine with_tabW lockagelaw07_FrameStays.tab7 lockagelaw07_FrameStays.bits7 (fun HT_ HW_ => ?_)
               generalize w100.drew = w101 at HO288 HO298 BK299 HB hHeld ⊢
               refine take_ (i := 0) (N := some 36) (v := ?_) (a' := ?_) #[true, false, false, false, false, false, false, false, false] rfl rfl (take_ofW HT_.out HW_.out (by kernel_rfl)) (fun _ _ _ h => h) (Or.inl ⟨by rfl, ?_⟩) hHeld ?_ ?_
               rotate_left
               ·rintro w' ⟨s0, s1, s2, s3, s4, s5⟩
                go_simp
                with_reducible rfl
               rotate_left
               ·simp only [Act.put, List.setIfInBounds_toArray, List.set_cons_zero, List.set_cons_succ, i64_w, i32_w]
                rfl
               refine take_ (i := 1) (N := some 37) (v := ?_) (a' := ?_) #[true, true, false, false, false, false, false, false, false] rfl rfl (take_ofW HT_.out HW_.out (by kernel_rfl)) (fun _ _ _ h => h) (Or.inl ⟨by rfl, ?_⟩) hHeld ?_ ?_
               rotate_left
               ·rintro w' ⟨s0, s1, s2, s3, s4, s5⟩
                go_simp
                with_reducible rfl
               rotate_left
               ·simp only [Act.put, List.setIfInBounds_toArray, List.set_cons_zero, List.set_cons_succ, i64_w, i32_w]
                rfl
               refine take_ (i := 2) (N := some 38) (v := ?_) (a' := ?_) #[true, true, true, false, false, false, false, false, false] rfl rfl (take_ofW HT_.out HW_.out (by kernel_rfl)) (fun _ _ _ h => h) (Or.inl ⟨by rfl, ?_⟩) hHeld ?_ ?_
               rotate_left
               ·rintro w' ⟨s0, s1, s2, s3, s4, s5⟩
                go_simp
                with_reducible rfl
               rotate_left
               ·simp only [Act.put, List.setIfInBounds_toArray, List.set_cons_zero, List.set_cons_succ, i64_w, i32_w]
                rfl
               refine join_ (σ := Nat × Nat × Nat) 3 #[true, true, true, true, true, true, false, false, false] (fun s_ => [(14, .pointer (some ⟨s_.1, 0, none⟩)), (15, .pointer (some ⟨s_.2.1, 0, none⟩)), (16, .pointer (some ⟨s_.2.2, 0, none⟩))]) (fun s_ w' => (w'.cell? ⟨gb299, 0, none⟩ = some (.string t291) ∧ w'.cell? ⟨gb299, 1, none⟩ = some (.string t292) ∧ w'.cell? ⟨gb299, 2, none⟩ = some (.int .i64 t293) ∧ w'.cell? ⟨gb299, 3, none⟩ = some (.string t294) ∧ w'.cell? ⟨gb299, 4, none⟩ = some (.int .i64 t295) ∧ w'.cell? ⟨gb299, 5, none⟩ = some (.slice Ao99 t296.length co99)) ∧ (Kd.R Kd.string 9 w' w.heap.size (fun _ => True) (.slice (some ad289) y286.length co95) y286) ∧ (Kd.R k32 32 w' w.heap.size (fun _ => True) (.slice Ao99 t296.length co99) t296) ∧ (w'.heap[gb299]? = some (.cells #[.string t291, .string t292, .int .i64 t293, .string t294, .int .i64 t295, .slice Ao99 t296.length co99] 25 (0, 0))) ∧ (w'.heap[s_.1]? = some (.cells #[.string (⟨#[]⟩ : ByteArray), .string (⟨#[]⟩ : ByteArray), .int .i64 0, .string (⟨#[]⟩ : ByteArray), .int .i64 0, .slice none 0 0] 25 (0, 0))) ∧ (w'.heap[s_.2.1]? = some (.cells #[.string (⟨#[]⟩ : ByteArray), .string (⟨#[]⟩ : ByteArray), .int .i64 0, .string (⟨#[]⟩ : ByteArray), .int .i64 0, .slice none 0 0] 25 (0, 0))) ∧ (w'.heap[s_.2.2]? = some (.cells #[.string (⟨#[]⟩ : ByteArray), .string (⟨#[]⟩ : ByteArray), .int .i64 0, .string (⟨#[]⟩ : ByteArray), .int .i64 0, .slice none 0 0] 25 (0, 0))) ∧ (w.heap.size ≤ s_.1) ∧ (w.heap.size ≤ s_.1) ∧ (gb299 ≠ s_.1) ∧ (s_.1 ≠ gb299) ∧ (s_.2.1 ≠ s_.1) ∧ (s_.1 ≠ s_.2.1) ∧ (s_.2.2 ≠ s_.1) ∧ (s_.1 ≠ s_.2.2) ∧ (w.heap.size ≤ s_.2.1) ∧ (w.heap.size ≤ s_.2.1) ∧ (gb299 ≠ s_.2.1) ∧ (s_.2.1 ≠ gb299) ∧ (s_.2.2 ≠ s_.2.1) ∧ (s_.2.1 ≠ s_.2.2) ∧ (w.heap.size ≤ s_.2.2) ∧ (w.heap.size ≤ s_.2.2) ∧ (gb299 ≠ s_.2.2) ∧ (s_.2.2 ≠ gb299) ∧ (Below w.heap.size w w')) ?_ ?_
               rotate_left
               ·intro hJ3_4_5
                refine join_ (σ := Nat × Nat) 4 #[true, true, true, true, true, false, false, false, false] (fun s_ => [(14, .pointer (some ⟨s_.1, 0, none⟩)), (15, .pointer (some ⟨s_.2, 0, none⟩))]) (fun s_ w' => (w'.cell? ⟨gb299, 0, none⟩ = some (.string t291) ∧ w'.cell? ⟨gb299, 1, none⟩ = some (.string t292) ∧ w'.cell? ⟨gb299, 2, none⟩ = some (.int .i64 t293) ∧ w'.cell? ⟨gb299, 3, none⟩ = some (.string t294) ∧ w'.cell? ⟨gb299, 4, none⟩ = some (.int .i64 t295) ∧ w'.cell? ⟨gb299, 5, none⟩ = some (.slice Ao99 t296.length co99)) ∧ (Kd.R Kd.string 9 w' w.heap.size (fun _ => True) (.slice (some ad289) y286.length co95) y286) ∧ (Kd.R k32 32 w' w.heap.size (fun _ => True) (.slice Ao99 t296.length co99) t296) ∧ (w'.heap[gb299]? = some (.cells #[.string t291, .string t292, .int .i64 t293, .string t294, .int .i64 t295, .slice Ao99 t296.length co99] 25 (0, 0))) ∧ (w'.heap[s_.1]? = some (.cells #[.string (⟨#[]⟩ : ByteArray), .string (⟨#[]⟩ : ByteArray), .int .i64 0, .string (⟨#[]⟩ : ByteArray), .int .i64 0, .slice none 0 0] 25 (0, 0))) ∧ (w'.heap[s_.2]? = some (.cells #[.string (⟨#[]⟩ : ByteArray), .string (⟨#[]⟩ : ByteArray), .int .i64 0, .string (⟨#[]⟩ : ByteArray), .int .i64 0, .slice none 0 0] 25 (0, 0))) ∧ (w.heap.size ≤ s_.1) ∧ (w.heap.size ≤ s_.1) ∧ (gb299 ≠ s_.1) ∧ (s_.1 ≠ gb299) ∧ (s_.2 ≠ s_.1) ∧ (s_.1 ≠ s_.2) ∧ (w.heap.size ≤ s_.2) ∧ (w.heap.size ≤ s_.2) ∧ (gb299 ≠ s_.2) ∧ (s_.2 ≠ gb299) ∧ (Below w.heap.size w w')) ?_ ?_
                rotate_left
                ·intro hJ3_4
                 refine join_ (σ := Nat × Nat) 4 #[true, true, true, true, false, true, false, false, false] (fun s_ => [(14, .pointer (some ⟨s_.1, 0, none⟩)), (16, .pointer (some ⟨s_.2, 0, none⟩))]) (fun s_ w' => (w'.cell? ⟨gb299, 0, none⟩ = some (.string t291) ∧ w'.cell? ⟨gb299, 1, none⟩ = some (.string t292) ∧ w'.cell? ⟨gb299, 2, none⟩ = some (.int .i64 t293) ∧ w'.cell? ⟨gb299, 3, none⟩ = some (.string t294) ∧ w'.cell? ⟨gb299, 4, none⟩ = some (.int .i64 t295) ∧ w'.cell? ⟨gb299, 5, none⟩ = some (.slice Ao99 t296.length co99)) ∧ (Kd.R Kd.string 9 w' w.heap.size (fun _ => True) (.slice (some ad289) y286.length co95) y286) ∧ (Kd.R k32 32 w' w.heap.size (fun _ => True) (.slice Ao99 t296.length co99) t296) ∧ (w'.heap[gb299]? = some (.cells #[.string t291, .string t292, .int .i64 t293, .string t294, .int .i64 t295, .slice Ao99 t296.length co99] 25 (0, 0))) ∧ (w'.heap[s_.1]? = some (.cells #[.string (⟨#[]⟩ : ByteArray), .string (⟨#[]⟩ : ByteArray), .int .i64 0, .string (⟨#[]⟩ : ByteArray), .int .i64 0, .slice none 0 0] 25 (0, 0))) ∧ (w'.heap[s_.2]? = some (.cells #[.string (⟨#[]⟩ : ByteArray), .string (⟨#[]⟩ : ByteArray), .int .i64 0, .string (⟨#[]⟩ : ByteArray), .int .i64 0, .slice none 0 0] 25 (0, 0))) ∧ (w.heap.size ≤ s_.1) ∧ (w.heap.size ≤ s_.1) ∧ (gb299 ≠ s_.1) ∧ (s_.1 ≠ gb299) ∧ (s_.2 ≠ s_.1) ∧ (s_.1 ≠ s_.2) ∧ (w.heap.size ≤ s_.2) ∧ (w.heap.size ≤ s_.2) ∧ (gb299 ≠ s_.2) ∧ (s_.2 ≠ gb299) ∧ (Below w.heap.size w w')) ?_ ?_
                 rotate_left
                 ·intro hJ3_5
                  refine join_ (σ := Nat × Nat) 4 #[true, true, true, false, true, true, false, false, false] (fun s_ => [(15, .pointer (some ⟨s_.1, 0, none⟩)), (16, .pointer (some ⟨s_.2, 0, none⟩))]) (fun s_ w' => (w'.cell? ⟨gb299, 0, none⟩ = some (.string t291) ∧ w'.cell? ⟨gb299, 1, none⟩ = some (.string t292) ∧ w'.cell? ⟨gb299, 2, none⟩ = some (.int .i64 t293) ∧ w'.cell? ⟨gb299, 3, none⟩ = some (.string t294) ∧ w'.cell? ⟨gb299, 4, none⟩ = some (.int .i64 t295) ∧ w'.cell? ⟨gb299, 5, none⟩ = some (.slice Ao99 t296.length co99)) ∧ (Kd.R Kd.string 9 w' w.heap.size (fun _ => True) (.slice (some ad289) y286.length co95) y286) ∧ (Kd.R k32 32 w' w.heap.size (fun _ => True) (.slice Ao99 t296.length co99) t296) ∧ (w'.heap[gb299]? = some (.cells #[.string t291, .string t292, .int .i64 t293, .string t294, .int .i64 t295, .slice Ao99 t296.length co99] 25 (0, 0))) ∧ (w'.heap[s_.1]? = some (.cells #[.string (⟨#[]⟩ : ByteArray), .string (⟨#[]⟩ : ByteArray), .int .i64 0, .string (⟨#[]⟩ : ByteArray), .int .i64 0, .slice none 0 0] 25 (0, 0))) ∧ (w'.heap[s_.2]? = some (.cells #[.string (⟨#[]⟩ : ByteArray), .string (⟨#[]⟩ : ByteArray), .int .i64 0, .string (⟨#[]⟩ : ByteArray), .int .i64 0, .slice none 0 0] 25 (0, 0))) ∧ (w.heap.size ≤ s_.1) ∧ (w.heap.size ≤ s_.1) ∧ (gb299 ≠ s_.1) ∧ (s_.1 ≠ gb299) ∧ (s_.2 ≠ s_.1) ∧ (s_.1 ≠ s_.2) ∧ (w.heap.size ≤ s_.2) ∧ (w.heap.size ≤ s_.2) ∧ (gb299 ≠ s_.2) ∧ (s_.2 ≠ gb299) ∧ (Below w.heap.size w w')) ?_ ?_
                  rotate_left
                  ·intro hJ4_5
                   refine join_ (σ := Nat) 5 #[true, true, true, true, false, false, false, false, false] (fun s_ => [(14, .pointer (some ⟨s_, 0, none⟩))]) (fun s_ w' => (w'.cell? ⟨gb299, 0, none⟩ = some (.string t291) ∧ w'.cell? ⟨gb299, 1, none⟩ = some (.string t292) ∧ w'.cell? ⟨gb299, 2, none⟩ = some (.int .i64 t293) ∧ w'.cell? ⟨gb299, 3, none⟩ = some (.string t294) ∧ w'.cell? ⟨gb299, 4, none⟩ = some (.int .i64 t295) ∧ w'.cell? ⟨gb299, 5, none⟩ = some (.slice Ao99 t296.length co99)) ∧ (Kd.R Kd.string 9 w' w.heap.size (fun _ => True) (.slice (some ad289) y286.length co95) y286) ∧ (Kd.R k32 32 w' w.heap.size (fun _ => True) (.slice Ao99 t296.length co99) t296) ∧ (w'.heap[gb299]? = some (.cells #[.string t291, .string t292, .int .i64 t293, .string t294, .int .i64 t295, .slice Ao99 t296.length co99] 25 (0, 0))) ∧ (w'.heap[s_]? = some (.cells #[.string (⟨#[]⟩ : ByteArray), .string (⟨#[]⟩ : ByteArray), .int .i64 0, .string (⟨#[]⟩ : ByteArray), .int .i64 0, .slice none 0 0] 25 (0, 0))) ∧ (w.heap.size ≤ s_) ∧ (w.heap.size ≤ s_) ∧ (gb299 ≠ s_) ∧ (s_ ≠ gb299) ∧ (Below w.heap.size w w')) ?_ ?_
                   rotate_left
                   ·intro hJ3
                    refine join_ (σ := Nat) 5 #[true, true, true, false, true, false, false, false, false] (fun s_ => [(15, .pointer (some ⟨s_, 0, none⟩))]) (fun s_ w' => (w'.cell? ⟨gb299, 0, none⟩ = some (.string t291) ∧ w'.cell? ⟨gb299, 1, none⟩ = some (.string t292) ∧ w'.cell? ⟨gb299, 2, none⟩ = some (.int .i64 t293) ∧ w'.cell? ⟨gb299, 3, none⟩ = some (.string t294) ∧ w'.cell? ⟨gb299, 4, none⟩ = some (.int .i64 t295) ∧ w'.cell? ⟨gb299, 5, none⟩ = some (.slice Ao99 t296.length co99)) ∧ (Kd.R Kd.string 9 w' w.heap.size (fun _ => True) (.slice (some ad289) y286.length co95) y286) ∧ (Kd.R k32 32 w' w.heap.size (fun _ => True) (.slice Ao99 t296.length co99) t296) ∧ (w'.heap[gb299]? = some (.cells #[.string t291, .string t292, .int .i64 t293, .string t294, .int .i64 t295, .slice Ao99 t296.length co99] 25 (0, 0))) ∧ (w'.heap[s_]? = some (.cells #[.string (⟨#[]⟩ : ByteArray), .string (⟨#[]⟩ : ByteArray), .int .i64 0, .string (⟨#[]⟩ : ByteArray), .int .i64 0, .slice none 0 0] 25 (0, 0))) ∧ (w.heap.size ≤ s_) ∧ (w.heap.size ≤ s_) ∧ (gb299 ≠ s_) ∧ (s_ ≠ gb299) ∧ (Below w.heap.size w w')) ?_ ?_
                    rotate_left
                    ·intro hJ4
                     refine join_ (σ := Nat) 5 #[true, true, true, false, false, true, false, false, false] (fun s_ => [(16, .pointer (some ⟨s_, 0, none⟩))]) (fun s_ w' => (w'.cell? ⟨gb299, 0, none⟩ = some (.string t291) ∧ w'.cell? ⟨gb299, 1, none⟩ = some (.string t292) ∧ w'.cell? ⟨gb299, 2, none⟩ = some (.int .i64 t293) ∧ w'.cell? ⟨gb299, 3, none⟩ = some (.string t294) ∧ w'.cell? ⟨gb299, 4, none⟩ = some (.int .i64 t295) ∧ w'.cell? ⟨gb299, 5, none⟩ = some (.slice Ao99 t296.length co99)) ∧ (Kd.R Kd.string 9 w' w.heap.size (fun _ => True) (.slice (some ad289) y286.length co95) y286) ∧ (Kd.R k32 32 w' w.heap.size (fun _ => True) (.slice Ao99 t296.length co99) t296) ∧ (w'.heap[gb299]? = some (.cells #[.string t291, .string t292, .int .i64 t293, .string t294, .int .i64 t295, .slice Ao99 t296.length co99] 25 (0, 0))) ∧ (w'.heap[s_]? = some (.cells #[.string (⟨#[]⟩ : ByteArray), .string (⟨#[]⟩ : ByteArray), .int .i64 0, .string (⟨#[]⟩ : ByteArray), .int .i64 0, .slice none 0 0] 25 (0, 0))) ∧ (w.heap.size ≤ s_) ∧ (w.heap.size ≤ s_) ∧ (gb299 ≠ s_) ∧ (s_ ≠ gb299) ∧ (Below w.heap.size w w')) ?_ ?_
                     rotate_left
                     ·intro hJ5
                      refine three_ (i := 3) (j := 4) (k := 5) (Ni := some 14) (Nj := some 15) (Nk := some 16) #[true, true, true, true, false, false, false, false, false] #[true, true, true, false, true, false, false, false, false] #[true, true, true, false, false, true, false, false, false] rfl rfl rfl rfl rfl rfl (three_of HT_.out (by kernel_rfl)) (by decide) (by decide) (by decide) (fun K hK => ?_) (fun K hK => ?_) (fun K hK => ?_)
                      ·skip
                       refine box_step ?hg (N := 14) ?hd (cs := #[.string (⟨#[]⟩ : ByteArray), .string (⟨#[]⟩ : ByteArray), .int .i64 0, .string (⟨#[]⟩ : ByteArray), .int .i64 0, .slice none 0 0]) (t := 25) ?hr ?_; (case hd => rfl); (case hg => rfl); (case hr => first | (go_simp; done) | (go_simp; rfl))
                       intro gb300 hg w102 hbox hb
                       have n0_ := aM (Kd.R_below (by (with_reducible repeat (first | apply rA | apply rN | apply rD)); exact HO288.out) hb)
                       have n1_ := aM (Kd.R_below (by (with_reducible repeat (first | apply rA | apply rN | apply rD)); exact HO298.out) hb)
                       have n2_ := aM (blk_below (g := gb299) (o := .cells #[.string t291, .string t292, .int .i64 t293, .string t294, .int .i64 t295, .slice Ao99 t296.length co99] 25 (0, 0)) (by (with_reducible repeat (first | refine bN ?_ _ | refine bD ?_ | refine bA ?_ _)); exact BK299.out) hb)
                       have n3_ := aM (below_step (by repeat (first | (with_reducible first | exact HB.out | apply lA | apply lN | apply lD | refine below_set ?_ GE299.out) | exact HB.out)) hb)
                       have n4_ := aM (hbox)
                       have n5_ := aM ((by rw [hg]; exact (below_size (by repeat (first | (with_reducible first | exact HB.out | apply lA | apply lN | apply lD | refine below_set ?_ GE299.out) | exact HB.out))) : w.heap.size ≤ gb300))
                       have n6_ := aM ((by rw [hg]; exact (below_size (by repeat (first | (with_reducible first | exact HB.out | apply lA | apply lN | apply lD | refine below_set ?_ GE299.out) | exact HB.out))) : w.heap.size ≤ gb300))
                       have n7_ := aM ((by rw [hg]; exact Nat.ne_of_lt (blk_lt (g := gb299) (o := .cells #[.string t291, .string t292, .int .i64 t293, .string t294, .int .i64 t295, .slice Ao99 t296.length co99] 25 (0, 0)) (by (with_reducible repeat (first | refine bN ?_ _ | refine bD ?_ | refine bA ?_ _)); exact BK299.out)) : gb299 ≠ gb300))
                       have n8_ := aM ((by rw [hg]; exact Nat.ne_of_gt (blk_lt (g := gb299) (o := .cells #[.string t291, .string t292, .int .i64 t293, .string t294, .int .i64 t295, .slice Ao99 t296.length co99] 25 (0, 0)) (by (with_reducible repeat (first | refine bN ?_ _ | refine bD ?_ | refine bA ?_ _)); exact BK299.out)) : gb300 ≠ gb299))
                       clear HO288
                       clear HO298
                       clear BK299
                       clear HB
                       have HO288 := n0_
                       have HO298 := n1_
                       have BK299 := n2_
                       have HB := n3_
                       have BK300 := n4_
                       have GW300 := n5_
                       have GE300 := n6_
                       have NB299_300 := n7_
                       have NB300_299 := n8_
                       clear n0_ n1_ n2_ n3_ n4_ n5_ n6_ n7_ n8_
                       clear hb hbox hg
                       refine hK.out _ _ ⟨(blk_cell BK299.out 0).trans rfl, (blk_cell BK299.out 1).trans rfl, (blk_cell BK299.out 2).trans rfl, (blk_cell BK299.out 3).trans rfl, (blk_cell BK299.out 4).trans rfl, (blk_cell BK299.out 5).trans rfl⟩ (fun hHeld => ?_)
                       clear hK K
                       refine norm_ (a' := ?_) ?_ ?_
                       rotate_left
                       ·show Act.put _ (some 14) _ = _
                        simp only [Act.put, List.setIfInBounds_toArray, List.set_cons_zero, List.set_cons_succ, i64_w, i32_w]
                        rfl
                       exact norm_ (by first | (simp only [putAll, Act.put, List.setIfInBounds_toArray, List.set_cons_zero, List.set_cons_succ]; done) | (simp only [putAll, Act.put, List.setIfInBounds_toArray, List.set_cons_zero, List.set_cons_succ]; rfl)) (hJ3 (gb300) _ ⟨hHeld, (by (with_reducible repeat (first | apply rA | apply rN | apply rD)); exact HO288.out), (by (with_reducible repeat (first | apply rA | apply rN | apply rD)); exact HO298.out), (by (with_reducible repeat (first | refine bN ?_ _ | refine bD ?_ | refine bA ?_ _)); exact BK299.out), (by (with_reducible repeat (first | refine bN ?_ _ | refine bD ?_ | refine bA ?_ _)); exact BK300.out), GW300.out, GE300.out, NB299_300.out, NB300_299.out, (by repeat (first | (with_reducible first | exact HB.out | apply lA | apply lN | apply lD | refine below_set ?_ GE299.out | refine below_set ?_ GE300.out) | exact HB.out))⟩)
                      ·skip
                       refine box_step ?hg (N := 15) ?hd (cs := #[.string (⟨#[]⟩ : ByteArray), .string (⟨#[]⟩ : ByteArray), .int .i64 0, .string (⟨#[]⟩ : ByteArray), .int .i64 0, .slice none 0 0]) (t := 25) ?hr ?_; (case hd => rfl); (case hg => rfl); (case hr => first | (go_simp; done) | (go_simp; rfl))
                       intro gb301 hg w102 hbox hb
                       have n0_ := aM (Kd.R_below (by (with_reducible repeat (first | apply rA | apply rN | apply rD)); exact HO288.out) hb)
                       have n1_ := aM (Kd.R_below (by (with_reducible repeat (first | apply rA | apply rN | apply rD)); exact HO298.out) hb)
                       have n2_ := aM (blk_below (g := gb299) (o := .cells #[.string t291, .string t292, .int .i64 t293, .string t294, .int .i64 t295, .slice Ao99 t296.length co99] 25 (0, 0)) (by (with_reducible repeat (first | refine bN ?_ _ | refine bD ?_ | refine bA ?_ _)); exact BK299.out) hb)
                       have n3_ := aM (below_step (by repeat (first | (with_reducible first | exact HB.out | apply lA | apply lN | apply lD | refine below_set ?_ GE299.out) | exact HB.out)) hb)
                       have n4_ := aM (hbox)
                       have n5_ := aM ((by rw [hg]; exact (below_size (by repeat (first | (with_reducible first | exact HB.out | apply lA | apply lN | apply lD | refine below_set ?_ GE299.out) | exact HB.out))) : w.heap.size ≤ gb301))
                       have n6_ := aM ((by rw [hg]; exact (below_size (by repeat (first | (with_reducible first | exact HB.out | apply lA | apply lN | apply lD | refine below_set ?_ GE299.out) | exact HB.out))) : w.heap.size ≤ gb301))
                       have n7_ := aM ((by rw [hg]; exact Nat.ne_of_lt (blk_lt (g := gb299) (o := .cells #[.string t291, .string t292, .int .i64 t293, .string t294, .int .i64 t295, .slice Ao99 t296.length co99] 25 (0, 0)) (by (with_reducible repeat (first | refine bN ?_ _ | refine bD ?_ | refine bA ?_ _)); exact BK299.out)) : gb299 ≠ gb301))
                       have n8_ := aM ((by rw [hg]; exact Nat.ne_of_gt (blk_lt (g := gb299) (o := .cells #[.string t291, .string t292, .int .i64 t293, .string t294, .int .i64 t295, .slice Ao99 t296.length co99] 25 (0, 0)) (by (with_reducible repeat (first | refine bN ?_ _ | refine bD ?_ | refine bA ?_ _)); exact BK299.out)) : gb301 ≠ gb299))
                       clear HO288
                       clear HO298
                       clear BK299
                       clear HB
                       have HO288 := n0_
                       have HO298 := n1_
                       have BK299 := n2_
                       have HB := n3_
                       have BK301 := n4_
                       have GW301 := n5_
                       have GE301 := n6_
                       have NB299_301 := n7_
                       have NB301_299 := n8_
                       clear n0_ n1_ n2_ n3_ n4_ n5_ n6_ n7_ n8_
                       clear hb hbox hg
                       refine hK.out _ _ ⟨(blk_cell BK299.out 0).trans rfl, (blk_cell BK299.out 1).trans rfl, (blk_cell BK299.out 2).trans rfl, (blk_cell BK299.out 3).trans rfl, (blk_cell BK299.out 4).trans rfl, (blk_cell BK299.out 5).trans rfl⟩ (fun hHeld => ?_)
                       clear hK K
                       refine norm_ (a' := ?_) ?_ ?_
                       rotate_left
                       ·show Act.put _ (some 15) _ = _
                        simp only [Act.put, List.setIfInBounds_toArray, List.set_cons_zero, List.set_cons_succ, i64_w, i32_w]
                        rfl
                       exact norm_ (by first | (simp only [putAll, Act.put, List.setIfInBounds_toArray, List.set_cons_zero, List.set_cons_succ]; done) | (simp only [putAll, Act.put, List.setIfInBounds_toArray, List.set_cons_zero, List.set_cons_succ]; rfl)) (hJ4 (gb301) _ ⟨hHeld, (by (with_reducible repeat (first | apply rA | apply rN | apply rD)); exact HO288.out), (by (with_reducible repeat (first | apply rA | apply rN | apply rD)); exact HO298.out), (by (with_reducible repeat (first | refine bN ?_ _ | refine bD ?_ | refine bA ?_ _)); exact BK299.out), (by (with_reducible repeat (first | refine bN ?_ _ | refine bD ?_ | refine bA ?_ _)); exact BK301.out), GW301.out, GE301.out, NB299_301.out, NB301_299.out, (by repeat (first | (with_reducible first | exact HB.out | apply lA | apply lN | apply lD | refine below_set ?_ GE299.out | refine below_set ?_ GE301.out) | exact HB.out))⟩)
                      ·skip
                       refine box_step ?hg (N := 16) ?hd (cs := #[.string (⟨#[]⟩ : ByteArray), .string (⟨#[]⟩ : ByteArray), .int .i64 0, .string (⟨#[]⟩ : ByteArray), .int .i64 0, .slice none 0 0]) (t := 25) ?hr ?_; (case hd => rfl); (case hg => rfl); (case hr => first | (go_simp; done) | (go_simp; rfl))
                       intro gb302 hg w102 hbox hb
                       have n0_ := aM (Kd.R_below (by (with_reducible repeat (first | apply rA | apply rN | apply rD)); exact HO288.out) hb)
                       have n1_ := aM (Kd.R_below (by (with_reducible repeat (first | apply rA | apply rN | apply rD)); exact HO298.out) hb)
                       have n2_ := aM (blk_below (g := gb299) (o := .cells #[.string t291, .string t292, .int .i64 t293, .string t294, .int .i64 t295, .slice Ao99 t296.length co99] 25 (0, 0)) (by (with_reducible repeat (first | refine bN ?_ _ | refine bD ?_ | refine bA ?_ _)); exact BK299.out) hb)
                       have n3_ := aM (below_step (by repeat (first | (with_reducible first | exact HB.out | apply lA | apply lN | apply lD | refine below_set ?_ GE299.out) | exact HB.out)) hb)
                       have n4_ := aM (hbox)
                       have n5_ := aM ((by rw [hg]; exact (below_size (by repeat (first | (with_reducible first | exact HB.out | apply lA | apply lN | apply lD | refine below_set ?_ GE299.out) | exact HB.out))) : w.heap.size ≤ gb302))
                       have n6_ := aM ((by rw [hg]; exact (below_size (by repeat (first | (with_reducible first | exact HB.out | apply lA | apply lN | apply lD | refine below_set ?_ GE299.out) | exact HB.out))) : w.heap.size ≤ gb302))
                       have n7_ := aM ((by rw [hg]; exact Nat.ne_of_lt (blk_lt (g := gb299) (o := .cells #[.string t291, .string t292, .int .i64 t293, .string t294, .int .i64 t295, .slice Ao99 t296.length co99] 25 (0, 0)) (by (with_reducible repeat (first | refine bN ?_ _ | refine bD ?_ | refine bA ?_ _)); exact BK299.out)) : gb299 ≠ gb302))
                       have n8_ := aM ((by rw [hg]; exact Nat.ne_of_gt (blk_lt (g := gb299) (o := .cells #[.string t291, .string t292, .int .i64 t293, .string t294, .int .i64 t295, .slice Ao99 t296.length co99] 25 (0, 0)) (by (with_reducible repeat (first | refine bN ?_ _ | refine bD ?_ | refine bA ?_ _)); exact BK299.out)) : gb302 ≠ gb299))
                       clear HO288
                       clear HO298
                       clear BK299
                       clear HB
                       have HO288 := n0_
                       have HO298 := n1_
                       have BK299 := n2_
                       have HB := n3_
                       have BK302 := n4_
                       have GW302 := n5_
                       have GE302 := n6_
                       have NB299_302 := n7_
                       have NB302_299 := n8_
                       clear n0_ n1_ n2_ n3_ n4_ n5_ n6_ n7_ n8_
                       clear hb hbox hg
                       refine hK.out _ _ ⟨(blk_cell BK299.out 0).trans rfl, (blk_cell BK299.out 1).trans rfl, (blk_cell BK299.out 2).trans rfl, (blk_cell BK299.out 3).trans rfl, (blk_cell BK299.out 4).trans rfl, (blk_cell BK299.out 5).trans rfl⟩ (fun hHeld => ?_)
                       clear hK K
                       refine norm_ (a' := ?_) ?_ ?_
                       rotate_left
                       ·show Act.put _ (some 16) _ = _
                        simp only [Act.put, List.setIfInBounds_toArray, List.set_cons_zero, List.set_cons_succ, i64_w, i32_w]
                        rfl
                       exact norm_ (by first | (simp only [putAll, Act.put, List.setIfInBounds_toArray, List.set_cons_zero, List.set_cons_succ]; done) | (simp only [putAll, Act.put, List.setIfInBounds_toArray, List.set_cons_zero, List.set_cons_succ]; rfl)) (hJ5 (gb302) _ ⟨hHeld, (by (with_reducible repeat (first | apply rA | apply rN | apply rD)); exact HO288.out), (by (with_reducible repeat (first | apply rA | apply rN | apply rD)); exact HO298.out), (by (with_reducible repeat (first | refine bN ?_ _ | refine bD ?_ | refine bA ?_ _)); exact BK299.out), (by (with_reducible repeat (first | refine bN ?_ _ | refine bD ?_ | refine bA ?_ _)); exact BK302.out), GW302.out, GE302.out, NB299_302.out, NB302_299.out, (by repeat (first | (with_reducible first | exact HB.out | apply lA | apply lN | apply lD | refine below_set ?_ GE299.out | refine below_set ?_ GE302.out) | exact HB.out))⟩)
                     ·skip
                      rintro gb302 w103 ⟨hS_, h0_, h1_, h2_, h3_, h4_, h5_, h6_, h7_, h8_⟩
                      have n0_ : Aside0 (Kd.R Kd.string 9 w103 w.heap.size (fun _ => True) (.slice (some ad289) y286.length co95) y286) := ⟨h0_⟩
                      have n1_ : Aside0 (Kd.R k32 32 w103 w.heap.size (fun _ => True) (.slice Ao99 t296.length co99) t296) := ⟨h1_⟩
                      have n2_ : Aside0 (w103.heap[gb299]? = some (.cells #[.string t291, .string t292, .int .i64 t293, .string t294, .int .i64 t295, .slice Ao99 t296.length co99] 25 (0, 0))) := ⟨h2_⟩
                      have n3_ : Aside0 (w103.heap[gb302]? = some (.cells #[.string (⟨#[]⟩ : ByteArray), .string (⟨#[]⟩ : ByteArray), .int .i64 0, .string (⟨#[]⟩ : ByteArray), .int .i64 0, .slice none 0 0] 25 (0, 0))) := ⟨h3_⟩
                      have n4_ : Aside0 (w.heap.size ≤ gb302) := ⟨h4_⟩
                      have n5_ : Aside0 (w.heap.size ≤ gb302) := ⟨h5_⟩
                      have n6_ : Aside0 (gb299 ≠ gb302) := ⟨h6_⟩
                      have n7_ : Aside0 (gb302 ≠ gb299) := ⟨h7_⟩
                      have n8_ : Aside0 (Below w.heap.size w w103) := ⟨h8_⟩
                      clear HO288
                      clear HO298
                      clear BK299
                      clear HB
                      clear h0_ h1_ h2_ h3_ h4_ h5_ h6_ h7_ h8_
                      have HO288 := n0_
                      have HO298 := n1_
                      have BK299 := n2_
                      have BK302 := n3_
                      have GW302 := n4_
                      have GE302 := n5_
                      have NB299_302 := n6_
                      have NB302_299 := n7_
                      have HB := n8_
                      clear n0_ n1_ n2_ n3_ n4_ n5_ n6_ n7_ n8_
                      have hHeld : w103.cell? ⟨gb299, 0, none⟩ = some (.string t291) ∧ w103.cell? ⟨gb299, 1, none⟩ = some (.string t292) ∧ w103.cell? ⟨gb299, 2, none⟩ = some (.int .i64 t293) ∧ w103.cell? ⟨gb299, 3, none⟩ = some (.string t294) ∧ w103.cell? ⟨gb299, 4, none⟩ = some (.int .i64 t295) ∧ w103.cell? ⟨gb299, 5, none⟩ = some (.slice Ao99 t296.length co99) := hS_
                      refine norm_ (a' := ?_) ?_ ?_
                      rotate_left
                      ·simp only [putAll, Act.put, List.setIfInBounds_toArray, List.set_cons_zero, List.set_cons_succ]
                       rfl
                      refine two_ (i := 3) (j := 4) (Ni := some 14) (Nj := some 15) #[true, true, true, true, false, true, false, false, false] #[true, true, true, false, true, true, false, false, false] rfl rfl rfl rfl (two_of HT_.out (by kernel_rfl)) (by decide) (by decide) (fun K hK => ?_) (fun K hK => ?_)
                      ·skip
                       refine box_step ?hg (N := 14) ?hd (cs := #[.string (⟨#[]⟩ : ByteArray), .string (⟨#[]⟩ : ByteArray), .int .i64 0, .string (⟨#[]⟩ : ByteArray), .int .i64 0, .slice none 0 0]) (t := 25) ?hr ?_; (case hd => rfl); (case hg => rfl); (case hr => first | (go_simp; done) | (go_simp; rfl))
                       intro gb300 hg w104 hbox hb
                       have n0_ := aM (Kd.R_below (by (with_reducible repeat (first | apply rA | apply rN | apply rD)); exact HO288.out) hb)
                       have n1_ := aM (Kd.R_below (by (with_reducible repeat (first | apply rA | apply rN | apply rD)); exact HO298.out) hb)
                       have n2_ := aM (blk_below (g := gb299) (o := .cells #[.string t291, .string t292, .int .i64 t293, .string t294, .int .i64 t295, .slice Ao99 t296.length co99] 25 (0, 0)) (by (with_reducible repeat (first | refine bN ?_ _ | refine bD ?_ | refine bA ?_ _)); exact BK299.out) hb)
                       have n3_ := aM (blk_below (g := gb302) (o := .cells #[.string (⟨#[]⟩ : ByteArray), .string (⟨#[]⟩ : ByteArray), .int .i64 0, .string (⟨#[]⟩ : ByteArray), .int .i64 0, .slice none 0 0] 25 (0, 0)) (by (with_reducible repeat (first | refine bN ?_ _ | refine bD ?_ | refine bA ?_ _)); exact BK302.out) hb)
                       have n4_ := aM (below_step (by repeat (first | (with_reducible first | exact HB.out | apply lA | apply lN | apply lD | refine below_set ?_ GE299.out | refine below_set ?_ GE302.out) | exact HB.out)) hb)
                       have n5_ := aM (hbox)
                       have n6_ := aM ((by rw [hg]; exact (below_size (by repeat (first | (with_reducible first | exact HB.out | apply lA | apply lN | apply lD | refine below_set ?_ GE299.out | refine below_set ?_ GE302.out) | exact HB.out))) : w.heap.size ≤ gb300))
                       have n7_ := aM ((by rw [hg]; exact (below_size (by repeat (first | (with_reducible first | exact HB.out | apply lA | apply lN | apply lD | refine below_set ?_ GE299.out | refine below_set ?_ GE302.out) | exact HB.out))) : w.heap.size ≤ gb300))
                       have n8_ := aM ((by rw [hg]; exact Nat.ne_of_lt (blk_lt (g := gb299) (o := .cells #[.string t291, .string t292, .int .i64 t293, .string t294, .int .i64 t295, .slice Ao99 t296.length co99] 25 (0, 0)) (by (with_reducible repeat (first | refine bN ?_ _ | refine bD ?_ | refine bA ?_ _)); exact BK299.out)) : gb299 ≠ gb300))
                       have n9_ := aM ((by rw [hg]; exact Nat.ne_of_gt (blk_lt (g := gb299) (o := .cells #[.string t291, .string t292, .int .i64 t293, .string t294, .int .i64 t295, .slice Ao99 t296.length co99] 25 (0, 0)) (by (with_reducible repeat (first | refine bN ?_ _ | refine bD ?_ | refine bA ?_ _)); exact BK299.out)) : gb300 ≠ gb299))
                       have n10_ := aM ((by rw [hg]; exact Nat.ne_of_lt (blk_lt (g := gb302) (o := .cells #[.string (⟨#[]⟩ : ByteArray), .string (⟨#[]⟩ : ByteArray), .int .i64 0, .string (⟨#[]⟩ : ByteArray), .int .i64 0, .slice none 0 0] 25 (0, 0)) (by (with_reducible repeat (first | refine bN ?_ _ | refine bD ?_ | refine bA ?_ _)); exact BK302.out)) : gb302 ≠ gb300))
                       have n11_ := aM ((by rw [hg]; exact Nat.ne_of_gt (blk_lt (g := gb302) (o := .cells #[.string (⟨#[]⟩ : ByteArray), .string (⟨#[]⟩ : ByteArray), .int .i64 0, .string (⟨#[]⟩ : ByteArray), .int .i64 0, .slice none 0 0] 25 (0, 0)) (by (with_reducible repeat (first | refine bN ?_ _ | refine bD ?_ | refine bA ?_ _)); exact BK302.out)) : gb300 ≠ gb302))
                       clear HO288
                       clear HO298
                       clear BK299
                       clear BK302
                       clear HB
                       have HO288 := n0_
                       have HO298 := n1_
                       have BK299 := n2_
                       have BK302 := n3_
                       have HB := n4_
                       have BK300 := n5_
                       have GW300 := n6_
                       have GE300 := n7_
                       have NB299_300 := n8_
                       have NB300_299 := n9_
                       have NB302_300 := n10_
                       have NB300_302 := n11_
                       clear n0_ n1_ n2_ n3_ n4_ n5_ n6_ n7_ n8_ n9_ n10_ n11_
                       clear hb hbox hg
                       refine hK.out _ _ ⟨(blk_cell BK299.out 0).trans rfl, (blk_cell BK299.out 1).trans rfl, (blk_cell BK299.out 2).trans rfl, (blk_cell BK299.out 3).trans rfl, (blk_cell BK299.out 4).trans rfl, (blk_cell BK299.out 5).trans rfl⟩ (fun hHeld => ?_)
                       clear hK K
                       refine norm_ (a' := ?_) ?_ ?_
                       rotate_left
                       ·show Act.put _ (some 14) _ = _
                        simp only [Act.put, List.setIfInBounds_toArray, List.set_cons_zero, List.set_cons_succ, i64_w, i32_w]
                        rfl
                       exact norm_ (by first | (simp only [putAll, Act.put, List.setIfInBounds_toArray, List.set_cons_zero, List.set_cons_succ]; done) | (simp only [putAll, Act.put, List.setIfInBounds_toArray, List.set_cons_zero, List.set_cons_succ]; rfl)) (hJ3_5 (gb300, gb302) _ ⟨hHeld, (by (with_reducible repeat (first | apply rA | apply rN | apply rD)); exact HO288.out), (by (with_reducible repeat (first | apply rA | apply rN | apply rD)); exact HO298.out), (by (with_reducible repeat (first | refine bN ?_ _ | refine bD ?_ | refine bA ?_ _)); exact BK299.out), (by (with_reducible repeat (first | refine bN ?_ _ | refine bD ?_ | refine bA ?_ _)); exact BK300.out), (by (with_reducible repeat (first | refine bN ?_ _ | refine bD ?_ | refine bA ?_ _)); exact BK302.out), GW300.out, GE300.out, NB299_300.out, NB300_299.out, NB302_300.out, NB300_302.out, GW302.out, GE302.out, NB299_302.out, NB302_299.out, (by repeat (first | (with_reducible first | exact HB.out | apply lA | apply lN | apply lD | refine below_set ?_ GE299.out | refine below_set ?_ GE302.out | refine below_set ?_ GE300.out) | exact HB.out))⟩)
                      ·skip
                       refine box_step ?hg (N := 15) ?hd (cs := #[.string (⟨#[]⟩ : ByteArray), .string (⟨#[]⟩ : ByteArray), .int .i64 0, .string (⟨#[]⟩ : ByteArray), .int .i64 0, .slice none 0 0]) (t := 25) ?hr ?_; (case hd => rfl); (case hg => rfl); (case hr => first | (go_simp; done) | (go_simp; rfl))
                       intro gb301 hg w104 hbox hb
                       have n0_ := aM (Kd.R_below (by (with_reducible repeat (first | apply rA | apply rN | apply rD)); exact HO288.out) hb)
                       have n1_ := aM (Kd.R_below (by (with_reducible repeat (first | apply rA | apply rN | apply rD)); exact HO298.out) hb)
                       have n2_ := aM (blk_below (g := gb299) (o := .cells #[.string t291, .string t292, .int .i64 t293, .string t294, .int .i64 t295, .slice Ao99 t296.length co99] 25 (0, 0)) (by (with_reducible repeat (first | refine bN ?_ _ | refine bD ?_ | refine bA ?_ _)); exact BK299.out) hb)
                       have n3_ := aM (blk_below (g := gb302) (o := .cells #[.string (⟨#[]⟩ : ByteArray), .string (⟨#[]⟩ : ByteArray), .int .i64 0, .string (⟨#[]⟩ : ByteArray), .int .i64 0, .slice none 0 0] 25 (0, 0)) (by (with_reducible repeat (first | refine bN ?_ _ | refine bD ?_ | refine bA ?_ _)); exact BK302.out) hb)
                       have n4_ := aM (below_step (by repeat (first | (with_reducible first | exact HB.out | apply lA | apply lN | apply lD | refine below_set ?_ GE299.out | refine below_set ?_ GE302.out) | exact HB.out)) hb)
                       have n5_ := aM (hbox)
                       have n6_ := aM ((by rw [hg]; exact (below_size (by repeat (first | (with_reducible first | exact HB.out | apply lA | apply lN | apply lD | refine below_set ?_ GE299.out | refine below_set ?_ GE302.out) | exact HB.out))) : w.heap.size ≤ gb301))
                       have n7_ := aM ((by rw [hg]; exact (below_size (by repeat (first | (with_reducible first | exact HB.out | apply lA | apply lN | apply lD | refine below_set ?_ GE299.out | refine below_set ?_ GE302.out) | exact HB.out))) : w.heap.size ≤ gb301))
                       have n8_ := aM ((by rw [hg]; exact Nat.ne_of_lt (blk_lt (g := gb299) (o := .cells #[.string t291, .string t292, .int .i64 t293, .string t294, .int .i64 t295, .slice Ao99 t296.length co99] 25 (0, 0)) (by (with_reducible repeat (first | refine bN ?_ _ | refine bD ?_ | refine bA ?_ _)); exact BK299.out)) : gb299 ≠ gb301))
                       have n9_ := aM ((by rw [hg]; exact Nat.ne_of_gt (blk_lt (g := gb299) (o := .cells #[.string t291, .string t292, .int .i64 t293, .string t294, .int .i64 t295, .slice Ao99 t296.length co99] 25 (0, 0)) (by (with_reducible repeat (first | refine bN ?_ _ | refine bD ?_ | refine bA ?_ _)); exact BK299.out)) : gb301 ≠ gb299))
                       have n10_ := aM ((by rw [hg]; exact Nat.ne_of_lt (blk_lt (g := gb302) (o := .cells #[.string (⟨#[]⟩ : ByteArray), .string (⟨#[]⟩ : ByteArray), .int .i64 0, .string (⟨#[]⟩ : ByteArray), .int .i64 0, .slice none 0 0] 25 (0, 0)) (by (with_reducible repeat (first | refine bN ?_ _ | refine bD ?_ | refine bA ?_ _)); exact BK302.out)) : gb302 ≠ gb301))
                       have n11_ := aM ((by rw [hg]; exact Nat.ne_of_gt (blk_lt (g := gb302) (o := .cells #[.string (⟨#[]⟩ : ByteArray), .string (⟨#[]⟩ : ByteArray), .int .i64 0, .string (⟨#[]⟩ : ByteArray), .int .i64 0, .slice none 0 0] 25 (0, 0)) (by (with_reducible repeat (first | refine bN ?_ _ | refine bD ?_ | refine bA ?_ _)); exact BK302.out)) : gb301 ≠ gb302))
                       clear HO288
                       clear HO298
                       clear BK299
                       clear BK302
                       clear HB
                       have HO288 := n0_
                       have HO298 := n1_
                       have BK299 := n2_
                       have BK302 := n3_
                       have HB := n4_
                       have BK301 := n5_
                       have GW301 := n6_
                       have GE301 := n7_
                       have NB299_301 := n8_
                       have NB301_299 := n9_
                       have NB302_301 := n10_
                       have NB301_302 := n11_
                       clear n0_ n1_ n2_ n3_ n4_ n5_ n6_ n7_ n8_ n9_ n10_ n11_
                       clear hb hbox hg
                       refine hK.out _ _ ⟨(blk_cell BK299.out 0).trans rfl, (blk_cell BK299.out 1).trans rfl, (blk_cell BK299.out 2).trans rfl, (blk_cell BK299.out 3).trans rfl, (blk_cell BK299.out 4).trans rfl, (blk_cell BK299.out 5).trans rfl⟩ (fun hHeld => ?_)
                       clear hK K
                       refine norm_ (a' := ?_) ?_ ?_
                       rotate_left
                       ·show Act.put _ (some 15) _ = _
                        simp only [Act.put, List.setIfInBounds_toArray, List.set_cons_zero, List.set_cons_succ, i64_w, i32_w]
                        rfl
                       exact norm_ (by first | (simp only [putAll, Act.put, List.setIfInBounds_toArray, List.set_cons_zero, List.set_cons_succ]; done) | (simp only [putAll, Act.put, List.setIfInBounds_toArray, List.set_cons_zero, List.set_cons_succ]; rfl)) (hJ4_5 (gb301, gb302) _ ⟨hHeld, (by (with_reducible repeat (first | apply rA | apply rN | apply rD)); exact HO288.out), (by (with_reducible repeat (first | apply rA | apply rN | apply rD)); exact HO298.out), (by (with_reducible repeat (first | refine bN ?_ _ | refine bD ?_ | refine bA ?_ _)); exact BK299.out), (by (with_reducible repeat (first | refine bN ?_ _ | refine bD ?_ | refine bA ?_ _)); exact BK301.out), (by (with_reducible repeat (first | refine bN ?_ _ | refine bD ?_ | refine bA ?_ _)); exact BK302.out), GW301.out, GE301.out, NB299_301.out, NB301_299.out, NB302_301.out, NB301_302.out, GW302.out, GE302.out, NB299_302.out, NB302_299.out, (by repeat (first | (with_reducible first | exact HB.out | apply lA | apply lN | apply lD | refine below_set ?_ GE299.out | refine below_set ?_ GE302.out | refine below_set ?_ GE301.out) | exact HB.out))⟩)
                    ·skip
                     rintro gb301 w103 ⟨hS_, h0_, h1_, h2_, h3_, h4_, h5_, h6_, h7_, h8_⟩
                     have n0_ : Aside0 (Kd.R Kd.string 9 w103 w.heap.size (fun _ => True) (.slice (some ad289) y286.length co95) y286) := ⟨h0_⟩
                     have n1_ : Aside0 (Kd.R k32 32 w103 w.heap.size (fun _ => True) (.slice Ao99 t296.length co99) t296) := ⟨h1_⟩
                     have n2_ : Aside0 (w103.heap[gb299]? = some (.cells #[.string t291, .string t292, .int .i64 t293, .string t294, .int .i64 t295, .slice Ao99 t296.length co99] 25 (0, 0))) := ⟨h2_⟩
                     have n3_ : Aside0 (w103.heap[gb301]? = some (.cells #[.string (⟨#[]⟩ : ByteArray), .string (⟨#[]⟩ : ByteArray), .int .i64 0, .string (⟨#[]⟩ : ByteArray), .int .i64 0, .slice none 0 0] 25 (0, 0))) := ⟨h3_⟩
                     have n4_ : Aside0 (w.heap.size ≤ gb301) := ⟨h4_⟩
                     have n5_ : Aside0 (w.heap.size ≤ gb301) := ⟨h5_⟩
                     have n6_ : Aside0 (gb299 ≠ gb301) := ⟨h6_⟩
                     have n7_ : Aside0 (gb301 ≠ gb299) := ⟨h7_⟩
                     have n8_ : Aside0 (Below w.heap.size w w103) := ⟨h8_⟩
                     clear HO288
                     clear HO298
                     clear BK299
                     clear HB
                     clear h0_ h1_ h2_ h3_ h4_ h5_ h6_ h7_ h8_
                     have HO288 := n0_
                     have HO298 := n1_
                     have BK299 := n2_
                     have BK301 := n3_
                     have GW301 := n4_
                     have GE301 := n5_
                     have NB299_301 := n6_
                     have NB301_299 := n7_
                     have HB := n8_
                     clear n0_ n1_ n2_ n3_ n4_ n5_ n6_ n7_ n8_
                     have hHeld : w103.cell? ⟨gb299, 0, none⟩ = some (.string t291) ∧ w103.cell? ⟨gb299, 1, none⟩ = some (.string t292) ∧ w103.cell? ⟨gb299, 2, none⟩ = some (.int .i64 t293) ∧ w103.cell? ⟨gb299, 3, none⟩ = some (.string t294) ∧ w103.cell? ⟨gb299, 4, none⟩ = some (.int .i64 t295) ∧ w103.cell? ⟨gb299, 5, none⟩ = some (.slice Ao99 t296.length co99) := hS_
                     refine norm_ (a' := ?_) ?_ ?_
                     rotate_left
                     ·simp only [putAll, Act.put, List.setIfInBounds_toArray, List.set_cons_zero, List.set_cons_succ]
                      rfl
                     refine two_ (i := 3) (j := 5) (Ni := some 14) (Nj := some 16) #[true, true, true, true, true, false, false, false, false] #[true, true, true, false, true, true, false, false, false] rfl rfl rfl rfl (two_of HT_.out (by kernel_rfl)) (by decide) (by decide) (fun K hK => ?_) (fun K hK => ?_)
                     ·skip
                      refine box_step ?hg (N := 14) ?hd (cs := #[.string (⟨#[]⟩ : ByteArray), .string (⟨#[]⟩ : ByteArray), .int .i64 0, .string (⟨#[]⟩ : ByteArray), .int .i64 0, .slice none 0 0]) (t := 25) ?hr ?_; (case hd => rfl); (case hg => rfl); (case hr => first | (go_simp; done) | (go_simp; rfl))
                      intro gb300 hg w104 hbox hb
                      have n0_ := aM (Kd.R_below (by (with_reducible repeat (first | apply rA | apply rN | apply rD)); exact HO288.out) hb)
                      have n1_ := aM (Kd.R_below (by (with_reducible repeat (first | apply rA | apply rN | apply rD)); exact HO298.out) hb)
                      have n2_ := aM (blk_below (g := gb299) (o := .cells #[.string t291, .string t292, .int .i64 t293, .string t294, .int .i64 t295, .slice Ao99 t296.length co99] 25 (0, 0)) (by (with_reducible repeat (first | refine bN ?_ _ | refine bD ?_ | refine bA ?_ _)); exact BK299.out) hb)
                      have n3_ := aM (blk_below (g := gb301) (o := .cells #[.string (⟨#[]⟩ : ByteArray), .string (⟨#[]⟩ : ByteArray), .int .i64 0, .string (⟨#[]⟩ : ByteArray), .int .i64 0, .slice none 0 0] 25 (0, 0)) (by (with_reducible repeat (first | refine bN ?_ _ | refine bD ?_ | refine bA ?_ _)); exact BK301.out) hb)
                      have n4_ := aM (below_step (by repeat (first | (with_reducible first | exact HB.out | apply lA | apply lN | apply lD | refine below_set ?_ GE299.out | refine below_set ?_ GE301.out) | exact HB.out)) hb)
                      have n5_ := aM (hbox)
                      have n6_ := aM ((by rw [hg]; exact (below_size (by repeat (first | (with_reducible first | exact HB.out | apply lA | apply lN | apply lD | refine below_set ?_ GE299.out | refine below_set ?_ GE301.out) | exact HB.out))) : w.heap.size ≤ gb300))
                      have n7_ := aM ((by rw [hg]; exact (below_size (by repeat (first | (with_reducible first | exact HB.out | apply lA | apply lN | apply lD | refine below_set ?_ GE299.out | refine below_set ?_ GE301.out) | exact HB.out))) : w.heap.size ≤ gb300))
                      have n8_ := aM ((by rw [hg]; exact Nat.ne_of_lt (blk_lt (g := gb299) (o := .cells #[.string t291, .string t292, .int .i64 t293, .string t294, .int .i64 t295, .slice Ao99 t296.length co99] 25 (0, 0)) (by (with_reducible repeat (first | refine bN ?_ _ | refine bD ?_ | refine bA ?_ _)); exact BK299.out)) : gb299 ≠ gb300))
                      have n9_ := aM ((by rw [hg]; exact Nat.ne_of_gt (blk_lt (g := gb299) (o := .cells #[.string t291, .string t292, .int .i64 t293, .string t294, .int .i64 t295, .slice Ao99 t296.length co99] 25 (0, 0)) (by (with_reducible repeat (first | refine bN ?_ _ | refine bD ?_ | refine bA ?_ _)); exact BK299.out)) : gb300 ≠ gb299))
                      have n10_ := aM ((by rw [hg]; exact Nat.ne_of_lt (blk_lt (g := gb301) (o := .cells #[.string (⟨#[]⟩ : ByteArray), .string (⟨#[]⟩ : ByteArray), .int .i64 0, .string (⟨#[]⟩ : ByteArray), .int .i64 0, .slice none 0 0] 25 (0, 0)) (by (with_reducible repeat (first | refine bN ?_ _ | refine bD ?_ | refine bA ?_ _)); exact BK301.out)) : gb301 ≠ gb300))
                      have n11_ := aM ((by rw [hg]; exact Nat.ne_of_gt (blk_lt (g := gb301) (o := .cells #[.string (⟨#[]⟩ : ByteArray), .string (⟨#[]⟩ : ByteArray), .int .i64 0, .string (⟨#[]⟩ : ByteArray), .int .i64 0, .slice none 0 0] 25 (0, 0)) (by (with_reducible repeat (first | refine bN ?_ _ | refine bD ?_ | refine bA ?_ _)); exact BK301.out)) : gb300 ≠ gb301))
                      clear HO288
                      clear HO298
                      clear BK299
                      clear BK301
                      clear HB
                      have HO288 := n0_
                      have HO298 := n1_
                      have BK299 := n2_
                      have BK301 := n3_
                      have HB := n4_
                      have BK300 := n5_
                      have GW300 := n6_
                      have GE300 := n7_
                      have NB299_300 := n8_
                      have NB300_299 := n9_
                      have NB301_300 := n10_
                      have NB300_301 := n11_
                      clear n0_ n1_ n2_ n3_ n4_ n5_ n6_ n7_ n8_ n9_ n10_ n11_
                      clear hb hbox hg
                      refine hK.out _ _ ⟨(blk_cell BK299.out 0).trans rfl, (blk_cell BK299.out 1).trans rfl, (blk_cell BK299.out 2).trans rfl, (blk_cell BK299.out 3).trans rfl, (blk_cell BK299.out 4).trans rfl, (blk_cell BK299.out 5).trans rfl⟩ (fun hHeld => ?_)
                      clear hK K
                      refine norm_ (a' := ?_) ?_ ?_
                      rotate_left
                      ·show Act.put _ (some 14) _ = _
                       simp only [Act.put, List.setIfInBounds_toArray, List.set_cons_zero, List.set_cons_succ, i64_w, i32_w]
                       rfl
                      exact norm_ (by first | (simp only [putAll, Act.put, List.setIfInBounds_toArray, List.set_cons_zero, List.set_cons_succ]; done) | (simp only [putAll, Act.put, List.setIfInBounds_toArray, List.set_cons_zero, List.set_cons_succ]; rfl)) (hJ3_4 (gb300, gb301) _ ⟨hHeld, (by (with_reducible repeat (first | apply rA | apply rN | apply rD)); exact HO288.out), (by (with_reducible repeat (first | apply rA | apply rN | apply rD)); exact HO298.out), (by (with_reducible repeat (first | refine bN ?_ _ | refine bD ?_ | refine bA ?_ _)); exact BK299.out), (by (with_reducible repeat (first | refine bN ?_ _ | refine bD ?_ | refine bA ?_ _)); exact BK300.out), (by (with_reducible repeat (first | refine bN ?_ _ | refine bD ?_ | refine bA ?_ _)); exact BK301.out), GW300.out, GE300.out, NB299_300.out, NB300_299.out, NB301_300.out, NB300_301.out, GW301.out, GE301.out, NB299_301.out, NB301_299.out, (by repeat (first | (with_reducible first | exact HB.out | apply lA | apply lN | apply lD | refine below_set ?_ GE299.out | refine below_set ?_ GE301.out | refine below_set ?_ GE300.out) | exact HB.out))⟩)
                     ·skip
                      refine box_step ?hg (N := 16) ?hd (cs := #[.string (⟨#[]⟩ : ByteArray), .string (⟨#[]⟩ : ByteArray), .int .i64 0, .string (⟨#[]⟩ : ByteArray), .int .i64 0, .slice none 0 0]) (t := 25) ?hr ?_; (case hd => rfl); (case hg => rfl); (case hr => first | (go_simp; done) | (go_simp; rfl))
                      intro gb302 hg w104 hbox hb
                      have n0_ := aM (Kd.R_below (by (with_reducible repeat (first | apply rA | apply rN | apply rD)); exact HO288.out) hb)
                      have n1_ := aM (Kd.R_below (by (with_reducible repeat (first | apply rA | apply rN | apply rD)); exact HO298.out) hb)
                      have n2_ := aM (blk_below (g := gb299) (o := .cells #[.string t291, .string t292, .int .i64 t293, .string t294, .int .i64 t295, .slice Ao99 t296.length co99] 25 (0, 0)) (by (with_reducible repeat (first | refine bN ?_ _ | refine bD ?_ | refine bA ?_ _)); exact BK299.out) hb)
                      have n3_ := aM (blk_below (g := gb301) (o := .cells #[.string (⟨#[]⟩ : ByteArray), .string (⟨#[]⟩ : ByteArray), .int .i64 0, .string (⟨#[]⟩ : ByteArray), .int .i64 0, .slice none 0 0] 25 (0, 0)) (by (with_reducible repeat (first | refine bN ?_ _ | refine bD ?_ | refine bA ?_ _)); exact BK301.out) hb)
                      have n4_ := aM (below_step (by repeat (first | (with_reducible first | exact HB.out | apply lA | apply lN | apply lD | refine below_set ?_ GE299.out | refine below_set ?_ GE301.out) | exact HB.out)) hb)
                      have n5_ := aM (hbox)
                      have n6_ := aM ((by rw [hg]; exact (below_size (by repeat (first | (with_reducible first | exact HB.out | apply lA | apply lN | apply lD | refine below_set ?_ GE299.out | refine below_set ?_ GE301.out) | exact HB.out))) : w.heap.size ≤ gb302))
                      have n7_ := aM ((by rw [hg]; exact (below_size (by repeat (first | (with_reducible first | exact HB.out | apply lA | apply lN | apply lD | refine below_set ?_ GE299.out | refine below_set ?_ GE301.out) | exact HB.out))) : w.heap.size ≤ gb302))
                      have n8_ := aM ((by rw [hg]; exact Nat.ne_of_lt (blk_lt (g := gb299) (o := .cells #[.string t291, .string t292, .int .i64 t293, .string t294, .int .i64 t295, .slice Ao99 t296.length co99] 25 (0, 0)) (by (with_reducible repeat (first | refine bN ?_ _ | refine bD ?_ | refine bA ?_ _)); exact BK299.out)) : gb299 ≠ gb302))
                      have n9_ := aM ((by rw [hg]; exact Nat.ne_of_gt (blk_lt (g := gb299) (o := .cells #[.string t291, .string t292, .int .i64 t293, .string t294, .int .i64 t295, .slice Ao99 t296.length co99] 25 (0, 0)) (by (with_reducible repeat (first | refine bN ?_ _ | refine bD ?_ | refine bA ?_ _)); exact BK299.out)) : gb302 ≠ gb299))
                      have n10_ := aM ((by rw [hg]; exact Nat.ne_of_lt (blk_lt (g := gb301) (o := .cells #[.string (⟨#[]⟩ : ByteArray), .string (⟨#[]⟩ : ByteArray), .int .i64 0, .string (⟨#[]⟩ : ByteArray), .int .i64 0, .slice none 0 0] 25 (0, 0)) (by (with_reducible repeat (first | refine bN ?_ _ | refine bD ?_ | refine bA ?_ _)); exact BK301.out)) : gb301 ≠ gb302))
                      have n11_ := aM ((by rw [hg]; exact Nat.ne_of_gt (blk_lt (g := gb301) (o := .cells #[.string (⟨#[]⟩ : ByteArray), .string (⟨#[]⟩ : ByteArray), .int .i64 0, .string (⟨#[]⟩ : ByteArray), .int .i64 0, .slice none 0 0] 25 (0, 0)) (by (with_reducible repeat (first | refine bN ?_ _ | refine bD ?_ | refine bA ?_ _)); exact BK301.out)) : gb302 ≠ gb301))
                      clear HO288
                      clear HO298
                      clear BK299
                      clear BK301
                      clear HB
                      have HO288 := n0_
                      have HO298 := n1_
                      have BK299 := n2_
                      have BK301 := n3_
                      have HB := n4_
                      have BK302 := n5_
                      have GW302 := n6_
                      have GE302 := n7_
                      have NB299_302 := n8_
                      have NB302_299 := n9_
                      have NB301_302 := n10_
                      have NB302_301 := n11_
                      clear n0_ n1_ n2_ n3_ n4_ n5_ n6_ n7_ n8_ n9_ n10_ n11_
                      clear hb hbox hg
                      refine hK.out _ _ ⟨(blk_cell BK299.out 0).trans rfl, (blk_cell BK299.out 1).trans rfl, (blk_cell BK299.out 2).trans rfl, (blk_cell BK299.out 3).trans rfl, (blk_cell BK299.out 4).trans rfl, (blk_cell BK299.out 5).trans rfl⟩ (fun hHeld => ?_)
                      clear hK K
                      refine norm_ (a' := ?_) ?_ ?_
                      rotate_left
                      ·show Act.put _ (some 16) _ = _
                       simp only [Act.put, List.setIfInBounds_toArray, List.set_cons_zero, List.set_cons_succ, i64_w, i32_w]
                       rfl
                      exact norm_ (by first | (simp only [putAll, Act.put, List.setIfInBounds_toArray, List.set_cons_zero, List.set_cons_succ]; done) | (simp only [putAll, Act.put, List.setIfInBounds_toArray, List.set_cons_zero, List.set_cons_succ]; rfl)) (hJ4_5 (gb301, gb302) _ ⟨hHeld, (by (with_reducible repeat (first | apply rA | apply rN | apply rD)); exact HO288.out), (by (with_reducible repeat (first | apply rA | apply rN | apply rD)); exact HO298.out), (by (with_reducible repeat (first | refine bN ?_ _ | refine bD ?_ | refine bA ?_ _)); exact BK299.out), (by (with_reducible repeat (first | refine bN ?_ _ | refine bD ?_ | refine bA ?_ _)); exact BK301.out), (by (with_reducible repeat (first | refine bN ?_ _ | refine bD ?_ | refine bA ?_ _)); exact BK302.out), GW301.out, GE301.out, NB299_301.out, NB301_299.out, NB302_301.out, NB301_302.out, GW302.out, GE302.out, NB299_302.out, NB302_299.out, (by repeat (first | (with_reducible first | exact HB.out | apply lA | apply lN | apply lD | refine below_set ?_ GE299.out | refine below_set ?_ GE301.out | refine below_set ?_ GE302.out) | exact HB.out))⟩)
                   ·skip
                    rintro gb300 w103 ⟨hS_, h0_, h1_, h2_, h3_, h4_, h5_, h6_, h7_, h8_⟩
                    have n0_ : Aside0 (Kd.R Kd.string 9 w103 w.heap.size (fun _ => True) (.slice (some ad289) y286.length co95) y286) := ⟨h0_⟩
                    have n1_ : Aside0 (Kd.R k32 32 w103 w.heap.size (fun _ => True) (.slice Ao99 t296.length co99) t296) := ⟨h1_⟩
                    have n2_ : Aside0 (w103.heap[gb299]? = some (.cells #[.string t291, .string t292, .int .i64 t293, .string t294, .int .i64 t295, .slice Ao99 t296.length co99] 25 (0, 0))) := ⟨h2_⟩
                    have n3_ : Aside0 (w103.heap[gb300]? = some (.cells #[.string (⟨#[]⟩ : ByteArray), .string (⟨#[]⟩ : ByteArray), .int .i64 0, .string (⟨#[]⟩ : ByteArray), .int .i64 0, .slice none 0 0] 25 (0, 0))) := ⟨h3_⟩
                    have n4_ : Aside0 (w.heap.size ≤ gb300) := ⟨h4_⟩
                    have n5_ : Aside0 (w.heap.size ≤ gb300) := ⟨h5_⟩
                    have n6_ : Aside0 (gb299 ≠ gb300) := ⟨h6_⟩
                    have n7_ : Aside0 (gb300 ≠ gb299) := ⟨h7_⟩
                    have n8_ : Aside0 (Below w.heap.size w w103) := ⟨h8_⟩
                    clear HO288
                    clear HO298
                    clear BK299
                    clear HB
                    clear h0_ h1_ h2_ h3_ h4_ h5_ h6_ h7_ h8_
                    have HO288 := n0_
                    have HO298 := n1_
                    have BK299 := n2_
                    have BK300 := n3_
                    have GW300 := n4_
                    have GE300 := n5_
                    have NB299_300 := n6_
                    have NB300_299 := n7_
                    have HB := n8_
                    clear n0_ n1_ n2_ n3_ n4_ n5_ n6_ n7_ n8_
                    have hHeld : w103.cell? ⟨gb299, 0, none⟩ = some (.string t291) ∧ w103.cell? ⟨gb299, 1, none⟩ = some (.string t292) ∧ w103.cell? ⟨gb299, 2, none⟩ = some (.int .i64 t293) ∧ w103.cell? ⟨gb299, 3, none⟩ = some (.string t294) ∧ w103.cell? ⟨gb299, 4, none⟩ = some (.int .i64 t295) ∧ w103.cell? ⟨gb299, 5, none⟩ = some (.slice Ao99 t296.length co99) := hS_
                    refine norm_ (a' := ?_) ?_ ?_
                    rotate_left
                    ·simp only [putAll, Act.put, List.setIfInBounds_toArray, List.set_cons_zero, List.set_cons_succ]
                     rfl
                    refine two_ (i := 4) (j := 5) (Ni := some 15) (Nj := some 16) #[true, true, true, true, true, false, false, false, false] #[true, true, true, true, false, true, false, false, false] rfl rfl rfl rfl (two_of HT_.out (by kernel_rfl)) (by decide) (by decide) (fun K hK => ?_) (fun K hK => ?_)
                    ·skip
                     refine box_step ?hg (N := 15) ?hd (cs := #[.string (⟨#[]⟩ : ByteArray), .string (⟨#[]⟩ : ByteArray), .int .i64 0, .string (⟨#[]⟩ : ByteArray), .int .i64 0, .slice none 0 0]) (t := 25) ?hr ?_; (case hd => rfl); (case hg => rfl); (case hr => first | (go_simp; done) | (go_simp; rfl))
                     intro gb301 hg w104 hbox hb
                     have n0_ := aM (Kd.R_below (by (with_reducible repeat (first | apply rA | apply rN | apply rD)); exact HO288.out) hb)
                     have n1_ := aM (Kd.R_below (by (with_reducible repeat (first | apply rA | apply rN | apply rD)); exact HO298.out) hb)
                     have n2_ := aM (blk_below (g := gb299) (o := .cells #[.string t291, .string t292, .int .i64 t293, .string t294, .int .i64 t295, .slice Ao99 t296.length co99] 25 (0, 0)) (by (with_reducible repeat (first | refine bN ?_ _ | refine bD ?_ | refine bA ?_ _)); exact BK299.out) hb)
                     have n3_ := aM (blk_below (g := gb300) (o := .cells #[.string (⟨#[]⟩ : ByteArray), .string (⟨#[]⟩ : ByteArray), .int .i64 0, .string (⟨#[]⟩ : ByteArray), .int .i64 0, .slice none 0 0] 25 (0, 0)) (by (with_reducible repeat (first | refine bN ?_ _ | refine bD ?_ | refine bA ?_ _)); exact BK300.out) hb)
                     have n4_ := aM (below_step (by repeat (first | (with_reducible first | exact HB.out | apply lA | apply lN | apply lD | refine below_set ?_ GE299.out | refine below_set ?_ GE300.out) | exact HB.out)) hb)
                     have n5_ := aM (hbox)
                     have n6_ := aM ((by rw [hg]; exact (below_size (by repeat (first | (with_reducible first | exact HB.out | apply lA | apply lN | apply lD | refine below_set ?_ GE299.out | refine below_set ?_ GE300.out) | exact HB.out))) : w.heap.size ≤ gb301))
                     have n7_ := aM ((by rw [hg]; exact (below_size (by repeat (first | (with_reducible first | exact HB.out | apply lA | apply lN | apply lD | refine below_set ?_ GE299.out | refine below_set ?_ GE300.out) | exact HB.out))) : w.heap.size ≤ gb301))
                     have n8_ := aM ((by rw [hg]; exact Nat.ne_of_lt (blk_lt (g := gb299) (o := .cells #[.string t291, .string t292, .int .i64 t293, .string t294, .int .i64 t295, .slice Ao99 t296.length co99] 25 (0, 0)) (by (with_reducible repeat (first | refine bN ?_ _ | refine bD ?_ | refine bA ?_ _)); exact BK299.out)) : gb299 ≠ gb301))
                     have n9_ := aM ((by rw [hg]; exact Nat.ne_of_gt (blk_lt (g := gb299) (o := .cells #[.string t291, .string t292, .int .i64 t293, .string t294, .int .i64 t295, .slice Ao99 t296.length co99] 25 (0, 0)) (by (with_reducible repeat (first | refine bN ?_ _ | refine bD ?_ | refine bA ?_ _)); exact BK299.out)) : gb301 ≠ gb299))
                     have n10_ := aM ((by rw [hg]; exact Nat.ne_of_lt (blk_lt (g := gb300) (o := .cells #[.string (⟨#[]⟩ : ByteArray), .string (⟨#[]⟩ : ByteArray), .int .i64 0, .string (⟨#[]⟩ : ByteArray), .int .i64 0, .slice none 0 0] 25 (0, 0)) (by (with_reducible repeat (first | refine bN ?_ _ | refine bD ?_ | refine bA ?_ _)); exact BK300.out)) : gb300 ≠ gb301))
                     have n11_ := aM ((by rw [hg]; exact Nat.ne_of_gt (blk_lt (g := gb300) (o := .cells #[.string (⟨#[]⟩ : ByteArray), .string (⟨#[]⟩ : ByteArray), .int .i64 0, .string (⟨#[]⟩ : ByteArray), .int .i64 0, .slice none 0 0] 25 (0, 0)) (by (with_reducible repeat (first | refine bN ?_ _ | refine bD ?_ | refine bA ?_ _)); exact BK300.out)) : gb301 ≠ gb300))
                     clear HO288
                     clear HO298
                     clear BK299
                     clear BK300
                     clear HB
                     have HO288 := n0_
                     have HO298 := n1_
                     have BK299 := n2_
                     have BK300 := n3_
                     have HB := n4_
                     have BK301 := n5_
                     have GW301 := n6_
                     have GE301 := n7_
                     have NB299_301 := n8_
                     have NB301_299 := n9_
                     have NB300_301 := n10_
                     have NB301_300 := n11_
                     clear n0_ n1_ n2_ n3_ n4_ n5_ n6_ n7_ n8_ n9_ n10_ n11_
                     clear hb hbox hg
                     refine hK.out _ _ ⟨(blk_cell BK299.out 0).trans rfl, (blk_cell BK299.out 1).trans rfl, (blk_cell BK299.out 2).trans rfl, (blk_cell BK299.out 3).trans rfl, (blk_cell BK299.out 4).trans rfl, (blk_cell BK299.out 5).trans rfl⟩ (fun hHeld => ?_)
                     clear hK K
                     refine norm_ (a' := ?_) ?_ ?_
                     rotate_left
                     ·show Act.put _ (some 15) _ = _
                      simp only [Act.put, List.setIfInBounds_toArray, List.set_cons_zero, List.set_cons_succ, i64_w, i32_w]
                      rfl
                     exact norm_ (by first | (simp only [putAll, Act.put, List.setIfInBounds_toArray, List.set_cons_zero, List.set_cons_succ]; done) | (simp only [putAll, Act.put, List.setIfInBounds_toArray, List.set_cons_zero, List.set_cons_succ]; rfl)) (hJ3_4 (gb300, gb301) _ ⟨hHeld, (by (with_reducible repeat (first | apply rA | apply rN | apply rD)); exact HO288.out), (by (with_reducible repeat (first | apply rA | apply rN | apply rD)); exact HO298.out), (by (with_reducible repeat (first | refine bN ?_ _ | refine bD ?_ | refine bA ?_ _)); exact BK299.out), (by (with_reducible repeat (first | refine bN ?_ _ | refine bD ?_ | refine bA ?_ _)); exact BK300.out), (by (with_reducible repeat (first | refine bN ?_ _ | refine bD ?_ | refine bA ?_ _)); exact BK301.out), GW300.out, GE300.out, NB299_300.out, NB300_299.out, NB301_300.out, NB300_301.out, GW301.out, GE301.out, NB299_301.out, NB301_299.out, (by repeat (first | (with_reducible first | exact HB.out | apply lA | apply lN | apply lD | refine below_set ?_ GE299.out | refine below_set ?_ GE300.out | refine below_set ?_ GE301.out) | exact HB.out))⟩)
                    ·skip
                     refine box_step ?hg (N := 16) ?hd (cs := #[.string (⟨#[]⟩ : ByteArray), .string (⟨#[]⟩ : ByteArray), .int .i64 0, .string (⟨#[]⟩ : ByteArray), .int .i64 0, .slice none 0 0]) (t := 25) ?hr ?_; (case hd => rfl); (case hg => rfl); (case hr => first | (go_simp; done) | (go_simp; rfl))
                     intro gb302 hg w104 hbox hb
                     have n0_ := aM (Kd.R_below (by (with_reducible repeat (first | apply rA | apply rN | apply rD)); exact HO288.out) hb)
                     have n1_ := aM (Kd.R_below (by (with_reducible repeat (first | apply rA | apply rN | apply rD)); exact HO298.out) hb)
                     have n2_ := aM (blk_below (g := gb299) (o := .cells #[.string t291, .string t292, .int .i64 t293, .string t294, .int .i64 t295, .slice Ao99 t296.length co99] 25 (0, 0)) (by (with_reducible repeat (first | refine bN ?_ _ | refine bD ?_ | refine bA ?_ _)); exact BK299.out) hb)
                     have n3_ := aM (blk_below (g := gb300) (o := .cells #[.string (⟨#[]⟩ : ByteArray), .string (⟨#[]⟩ : ByteArray), .int .i64 0, .string (⟨#[]⟩ : ByteArray), .int .i64 0, .slice none 0 0] 25 (0, 0)) (by (with_reducible repeat (first | refine bN ?_ _ | refine bD ?_ | refine bA ?_ _)); exact BK300.out) hb)
                     have n4_ := aM (below_step (by repeat (first | (with_reducible first | exact HB.out | apply lA | apply lN | apply lD | refine below_set ?_ GE299.out | refine below_set ?_ GE300.out) | exact HB.out)) hb)
                     have n5_ := aM (hbox)
                     have n6_ := aM ((by rw [hg]; exact (below_size (by repeat (first | (with_reducible first | exact HB.out | apply lA | apply lN | apply lD | refine below_set ?_ GE299.out | refine below_set ?_ GE300.out) | exact HB.out))) : w.heap.size ≤ gb302))
                     have n7_ := aM ((by rw [hg]; exact (below_size (by repeat (first | (with_reducible first | exact HB.out | apply lA | apply lN | apply lD | refine below_set ?_ GE299.out | refine below_set ?_ GE300.out) | exact HB.out))) : w.heap.size ≤ gb302))
                     have n8_ := aM ((by rw [hg]; exact Nat.ne_of_lt (blk_lt (g := gb299) (o := .cells #[.string t291, .string t292, .int .i64 t293, .string t294, .int .i64 t295, .slice Ao99 t296.length co99] 25 (0, 0)) (by (with_reducible repeat (first | refine bN ?_ _ | refine bD ?_ | refine bA ?_ _)); exact BK299.out)) : gb299 ≠ gb302))
                     have n9_ := aM ((by rw [hg]; exact Nat.ne_of_gt (blk_lt (g := gb299) (o := .cells #[.string t291, .string t292, .int .i64 t293, .string t294, .int .i64 t295, .slice Ao99 t296.length co99] 25 (0, 0)) (by (with_reducible repeat (first | refine bN ?_ _ | refine bD ?_ | refine bA ?_ _)); exact BK299.out)) : gb302 ≠ gb299))
                     have n10_ := aM ((by rw [hg]; exact Nat.ne_of_lt (blk_lt (g := gb300) (o := .cells #[.string (⟨#[]⟩ : ByteArray), .string (⟨#[]⟩ : ByteArray), .int .i64 0, .string (⟨#[]⟩ : ByteArray), .int .i64 0, .slice none 0 0] 25 (0, 0)) (by (with_reducible repeat (first | refine bN ?_ _ | refine bD ?_ | refine bA ?_ _)); exact BK300.out)) : gb300 ≠ gb302))
                     have n11_ := aM ((by rw [hg]; exact Nat.ne_of_gt (blk_lt (g := gb300) (o := .cells #[.string (⟨#[]⟩ : ByteArray), .string (⟨#[]⟩ : ByteArray), .int .i64 0, .string (⟨#[]⟩ : ByteArray), .int .i64 0, .slice none 0 0] 25 (0, 0)) (by (with_reducible repeat (first | refine bN ?_ _ | refine bD ?_ | refine bA ?_ _)); exact BK300.out)) : gb302 ≠ gb300))
                     clear HO288
                     clear HO298
                     clear BK299
                     clear BK300
                     clear HB
                     have HO288 := n0_
                     have HO298 := n1_
                     have BK299 := n2_
                     have BK300 := n3_
                     have HB := n4_
                     have BK302 := n5_
                     have GW302 := n6_
                     have GE302 := n7_
                     have NB299_302 := n8_
                     have NB302_299 := n9_
                     have NB300_302 := n10_
                     have NB302_300 := n11_
                     clear n0_ n1_ n2_ n3_ n4_ n5_ n6_ n7_ n8_ n9_ n10_ n11_
                     clear hb hbox hg
                     refine hK.out _ _ ⟨(blk_cell BK299.out 0).trans rfl, (blk_cell BK299.out 1).trans rfl, (blk_cell BK299.out 2).trans rfl, (blk_cell BK299.out 3).trans rfl, (blk_cell BK299.out 4).trans rfl, (blk_cell BK299.out 5).trans rfl⟩ (fun hHeld => ?_)
                     clear hK K
                     refine norm_ (a' := ?_) ?_ ?_
                     rotate_left
                     ·show Act.put _ (some 16) _ = _
                      simp only [Act.put, List.setIfInBounds_toArray, List.set_cons_zero, List.set_cons_succ, i64_w, i32_w]
                      rfl
                     exact norm_ (by first | (simp only [putAll, Act.put, List.setIfInBounds_toArray, List.set_cons_zero, List.set_cons_succ]; done) | (simp only [putAll, Act.put, List.setIfInBounds_toArray, List.set_cons_zero, List.set_cons_succ]; rfl)) (hJ3_5 (gb300, gb302) _ ⟨hHeld, (by (with_reducible repeat (first | apply rA | apply rN | apply rD)); exact HO288.out), (by (with_reducible repeat (first | apply rA | apply rN | apply rD)); exact HO298.out), (by (with_reducible repeat (first | refine bN ?_ _ | refine bD ?_ | refine bA ?_ _)); exact BK299.out), (by (with_reducible repeat (first | refine bN ?_ _ | refine bD ?_ | refine bA ?_ _)); exact BK300.out), (by (with_reducible repeat (first | refine bN ?_ _ | refine bD ?_ | refine bA ?_ _)); exact BK302.out), GW300.out, GE300.out, NB299_300.out, NB300_299.out, NB302_300.out, NB300_302.out, GW302.out, GE302.out, NB299_302.out, NB302_299.out, (by repeat (first | (with_reducible first | exact HB.out | apply lA | apply lN | apply lD | refine below_set ?_ GE299.out | refine below_set ?_ GE300.out | refine below_set ?_ GE302.out) | exact HB.out))⟩)
                  ·skip
                   rintro ⟨gb301, gb302⟩ w104 ⟨hS_, h0_, h1_, h2_, h3_, h4_, h5_, h6_, h7_, h8_, h9_, h10_, h11_, h12_, h13_, h14_, h15_⟩
                   have n0_ : Aside0 (Kd.R Kd.string 9 w104 w.heap.size (fun _ => True) (.slice (some ad289) y286.length co95) y286) := ⟨h0_⟩
                   have n1_ : Aside0 (Kd.R k32 32 w104 w.heap.size (fun _ => True) (.slice Ao99 t296.length co99) t296) := ⟨h1_⟩
                   have n2_ : Aside0 (w104.heap[gb299]? = some (.cells #[.string t291, .string t292, .int .i64 t293, .string t294, .int .i64 t295, .slice Ao99 t296.length co99] 25 (0, 0))) := ⟨h2_⟩
                   have n3_ : Aside0 (w104.heap[gb301]? = some (.cells #[.string (⟨#[]⟩ : ByteArray), .string (⟨#[]⟩ : ByteArray), .int .i64 0, .string (⟨#[]⟩ : ByteArray), .int .i64 0, .slice none 0 0] 25 (0, 0))) := ⟨h3_⟩
                   have n4_ : Aside0 (w104.heap[gb302]? = some (.cells #[.string (⟨#[]⟩ : ByteArray), .string (⟨#[]⟩ : ByteArray), .int .i64 0, .string (⟨#[]⟩ : ByteArray), .int .i64 0, .slice none 0 0] 25 (0, 0))) := ⟨h4_⟩
                   have n5_ : Aside0 (w.heap.size ≤ gb301) := ⟨h5_⟩
                   have n6_ : Aside0 (w.heap.size ≤ gb301) := ⟨h6_⟩
                   have n7_ : Aside0 (gb299 ≠ gb301) := ⟨h7_⟩
                   have n8_ : Aside0 (gb301 ≠ gb299) := ⟨h8_⟩
                   have n9_ : Aside0 (gb302 ≠ gb301) := ⟨h9_⟩
                   have n10_ : Aside0 (gb301 ≠ gb302) := ⟨h10_⟩
                   have n11_ : Aside0 (w.heap.size ≤ gb302) := ⟨h11_⟩
                   have n12_ : Aside0 (w.heap.size ≤ gb302) := ⟨h12_⟩
                   have n13_ : Aside0 (gb299 ≠ gb302) := ⟨h13_⟩
                   have n14_ : Aside0 (gb302 ≠ gb299) := ⟨h14_⟩
                   have n15_ : Aside0 (Below w.heap.size w w104) := ⟨h15_⟩
                   clear HO288
                   clear HO298
                   clear BK299
                   clear HB
                   clear h0_ h1_ h2_ h3_ h4_ h5_ h6_ h7_ h8_ h9_ h10_ h11_ h12_ h13_ h14_ h15_
                   have HO288 := n0_
                   have HO298 := n1_
                   have BK299 := n2_
                   have BK301 := n3_
                   have BK302 := n4_
                   have GW301 := n5_
                   have GE301 := n6_
                   have NB299_301 := n7_
                   have NB301_299 := n8_
                   have NB302_301 := n9_
                   have NB301_302 := n10_
                   have GW302 := n11_
                   have GE302 := n12_
                   have NB299_302 := n13_
                   have NB302_299 := n14_
                   have HB := n15_
                   clear n0_ n1_ n2_ n3_ n4_ n5_ n6_ n7_ n8_ n9_ n10_ n11_ n12_ n13_ n14_ n15_
                   have hHeld : w104.cell? ⟨gb299, 0, none⟩ = some (.string t291) ∧ w104.cell? ⟨gb299, 1, none⟩ = some (.string t292) ∧ w104.cell? ⟨gb299, 2, none⟩ = some (.int .i64 t293) ∧ w104.cell? ⟨gb299, 3, none⟩ = some (.string t294) ∧ w104.cell? ⟨gb299, 4, none⟩ = some (.int .i64 t295) ∧ w104.cell? ⟨gb299, 5, none⟩ = some (.slice Ao99 t296.length co99) := hS_
                   refine norm_ (a' := ?_) ?_ ?_
                   rotate_left
                   ·simp only [putAll, Act.put, List.setIfInBounds_toArray, List.set_cons_zero, List.set_cons_succ]
                    rfl
                   refine one_ (i := 3) (N := some 14) #[true, true, true, true, true, true, false, false, false] rfl rfl (one_of HT_.out (by kernel_rfl)) (by decide) (fun K hK => ?_)
                   refine box_step ?hg (N := 14) ?hd (cs := #[.string (⟨#[]⟩ : ByteArray), .string (⟨#[]⟩ : ByteArray), .int .i64 0, .string (⟨#[]⟩ : ByteArray), .int .i64 0, .slice none 0 0]) (t := 25) ?hr ?_; (case hd => rfl); (case hg => rfl); (case hr => first | (go_simp; done) | (go_simp; rfl))
                   intro gb300 hg w105 hbox hb
                   have n0_ := aM (Kd.R_below (by (with_reducible repeat (first | apply rA | apply rN | apply rD)); exact HO288.out) hb)
                   have n1_ := aM (Kd.R_below (by (with_reducible repeat (first | apply rA | apply rN | apply rD)); exact HO298.out) hb)
                   have n2_ := aM (blk_below (g := gb299) (o := .cells #[.string t291, .string t292, .int .i64 t293, .string t294, .int .i64 t295, .slice Ao99 t296.length co99] 25 (0, 0)) (by (with_reducible repeat (first | refine bN ?_ _ | refine bD ?_ | refine bA ?_ _)); exact BK299.out) hb)
                   have n3_ := aM (blk_below (g := gb301) (o := .cells #[.string (⟨#[]⟩ : ByteArray), .string (⟨#[]⟩ : ByteArray), .int .i64 0, .string (⟨#[]⟩ : ByteArray), .int .i64 0, .slice none 0 0] 25 (0, 0)) (by (with_reducible repeat (first | refine bN ?_ _ | refine bD ?_ | refine bA ?_ _)); exact BK301.out) hb)
                   have n4_ := aM (blk_below (g := gb302) (o := .cells #[.string (⟨#[]⟩ : ByteArray), .string (⟨#[]⟩ : ByteArray), .int .i64 0, .string (⟨#[]⟩ : ByteArray), .int .i64 0, .slice none 0 0] 25 (0, 0)) (by (with_reducible repeat (first | refine bN ?_ _ | refine bD ?_ | refine bA ?_ _)); exact BK302.out) hb)
                   have n5_ := aM (below_step (by repeat (first | (with_reducible first | exact HB.out | apply lA | apply lN | apply lD | refine below_set ?_ GE299.out | refine below_set ?_ GE301.out | refine below_set ?_ GE302.out) | exact HB.out)) hb)
                   have n6_ := aM (hbox)
                   have n7_ := aM ((by rw [hg]; exact (below_size (by repeat (first | (with_reducible first | exact HB.out | apply lA | apply lN | apply lD | refine below_set ?_ GE299.out | refine below_set ?_ GE301.out | refine below_set ?_ GE302.out) | exact HB.out))) : w.heap.size ≤ gb300))
                   have n8_ := aM ((by rw [hg]; exact (below_size (by repeat (first | (with_reducible first | exact HB.out | apply lA | apply lN | apply lD | refine below_set ?_ GE299.out | refine below_set ?_ GE301.out | refine below_set ?_ GE302.out) | exact HB.out))) : w.heap.size ≤ gb300))
                   have n9_ := aM ((by rw [hg]; exact Nat.ne_of_lt (blk_lt (g := gb299) (o := .cells #[.string t291, .string t292, .int .i64 t293, .string t294, .int .i64 t295, .slice Ao99 t296.length co99] 25 (0, 0)) (by (with_reducible repeat (first | refine bN ?_ _ | refine bD ?_ | refine bA ?_ _)); exact BK299.out)) : gb299 ≠ gb300))
                   have n10_ := aM ((by rw [hg]; exact Nat.ne_of_gt (blk_lt (g := gb299) (o := .cells #[.string t291, .string t292, .int .i64 t293, .string t294, .int .i64 t295, .slice Ao99 t296.length co99] 25 (0, 0)) (by (with_reducible repeat (first | refine bN ?_ _ | refine bD ?_ | refine bA ?_ _)); exact BK299.out)) : gb300 ≠ gb299))
                   have n11_ := aM ((by rw [hg]; exact Nat.ne_of_lt (blk_lt (g := gb301) (o := .cells #[.string (⟨#[]⟩ : ByteArray), .string (⟨#[]⟩ : ByteArray), .int .i64 0, .string (⟨#[]⟩ : ByteArray), .int .i64 0, .slice none 0 0] 25 (0, 0)) (by (with_reducible repeat (first | refine bN ?_ _ | refine bD ?_ | refine bA ?_ _)); exact BK301.out)) : gb301 ≠ gb300))
                   have n12_ := aM ((by rw [hg]; exact Nat.ne_of_gt (blk_lt (g := gb301) (o := .cells #[.string (⟨#[]⟩ : ByteArray), .string (⟨#[]⟩ : ByteArray), .int .i64 0, .string (⟨#[]⟩ : ByteArray), .int .i64 0, .slice none 0 0] 25 (0, 0)) (by (with_reducible repeat (first | refine bN ?_ _ | refine bD ?_ | refine bA ?_ _)); exact BK301.out)) : gb300 ≠ gb301))
                   have n13_ := aM ((by rw [hg]; exact Nat.ne_of_lt (blk_lt (g := gb302) (o := .cells #[.string (⟨#[]⟩ : ByteArray), .string (⟨#[]⟩ : ByteArray), .int .i64 0, .string (⟨#[]⟩ : ByteArray), .int .i64 0, .slice none 0 0] 25 (0, 0)) (by (with_reducible repeat (first | refine bN ?_ _ | refine bD ?_ | refine bA ?_ _)); exact BK302.out)) : gb302 ≠ gb300))
                   have n14_ := aM ((by rw [hg]; exact Nat.ne_of_gt (blk_lt (g := gb302) (o := .cells #[.string (⟨#[]⟩ : ByteArray), .string (⟨#[]⟩ : ByteArray), .int .i64 0, .string (⟨#[]⟩ : ByteArray), .int .i64 0, .slice none 0 0] 25 (0, 0)) (by (with_reducible repeat (first | refine bN ?_ _ | refine bD ?_ | refine bA ?_ _)); exact BK302.out)) : gb300 ≠ gb302))
                   clear HO288
                   clear HO298
                   clear BK299
                   clear BK301
                   clear BK302
                   clear HB
                   have HO288 := n0_
                   have HO298 := n1_
                   have BK299 := n2_
                   have BK301 := n3_
                   have BK302 := n4_
                   have HB := n5_
                   have BK300 := n6_
                   have GW300 := n7_
                   have GE300 := n8_
                   have NB299_300 := n9_
                   have NB300_299 := n10_
                   have NB301_300 := n11_
                   have NB300_301 := n12_
                   have NB302_300 := n13_
                   have NB300_302 := n14_
                   clear n0_ n1_ n2_ n3_ n4_ n5_ n6_ n7_ n8_ n9_ n10_ n11_ n12_ n13_ n14_
                   clear hb hbox hg
                   refine hK.out _ _ ⟨(blk_cell BK299.out 0).trans rfl, (blk_cell BK299.out 1).trans rfl, (blk_cell BK299.out 2).trans rfl, (blk_cell BK299.out 3).trans rfl, (blk_cell BK299.out 4).trans rfl, (blk_cell BK299.out 5).trans rfl⟩ (fun hHeld => ?_)
                   clear hK K
                   refine norm_ (a' := ?_) ?_ ?_
                   rotate_left
                   ·show Act.put _ (some 14) _ = _
                    simp only [Act.put, List.setIfInBounds_toArray, List.set_cons_zero, List.set_cons_succ, i64_w, i32_w]
                    rfl
                   exact norm_ (by first | (simp only [putAll, Act.put, List.setIfInBounds_toArray, List.set_cons_zero, List.set_cons_succ]; done) | (simp only [putAll, Act.put, List.setIfInBounds_toArray, List.set_cons_zero, List.set_cons_succ]; rfl)) (hJ3_4_5 (gb300, gb301, gb302) _ ⟨hHeld, (by (with_reducible repeat (first | apply rA | apply rN | apply rD)); exact HO288.out), (by (with_reducible repeat (first | apply rA | apply rN | apply rD)); exact HO298.out), (by (with_reducible repeat (first | refine bN ?_ _ | refine bD ?_ | refine bA ?_ _)); exact BK299.out), (by (with_reducible repeat (first | refine bN ?_ _ | refine bD ?_ | refine bA ?_ _)); exact BK300.out), (by (with_reducible repeat (first | refine bN ?_ _ | refine bD ?_ | refine bA ?_ _)); exact BK301.out), (by (with_reducible repeat (first | refine bN ?_ _ | refine bD ?_ | refine bA ?_ _)); exact BK302.out), GW300.out, GE300.out, NB299_300.out, NB300_299.out, NB301_300.out, NB300_301.out, NB302_300.out, NB300_302.out, GW301.out, GE301.out, NB299_301.out, NB301_299.out, NB302_301.out, NB301_302.out, GW302.out, GE302.out, NB299_302.out, NB302_299.out, (by repeat (first | (with_reducible first | exact HB.out | apply lA | apply lN | apply lD | refine below_set ?_ GE299.out | refine below_set ?_ GE301.out | refine below_set ?_ GE302.out | refine below_set ?_ GE300.out) | exact HB.out))⟩)
                 ·skip
                  rintro ⟨gb300, gb302⟩ w104 ⟨hS_, h0_, h1_, h2_, h3_, h4_, h5_, h6_, h7_, h8_, h9_, h10_, h11_, h12_, h13_, h14_, h15_⟩
                  have n0_ : Aside0 (Kd.R Kd.string 9 w104 w.heap.size (fun _ => True) (.slice (some ad289) y286.length co95) y286) := ⟨h0_⟩
                  have n1_ : Aside0 (Kd.R k32 32 w104 w.heap.size (fun _ => True) (.slice Ao99 t296.length co99) t296) := ⟨h1_⟩
                  have n2_ : Aside0 (w104.heap[gb299]? = some (.cells #[.string t291, .string t292, .int .i64 t293, .string t294, .int .i64 t295, .slice Ao99 t296.length co99] 25 (0, 0))) := ⟨h2_⟩
                  have n3_ : Aside0 (w104.heap[gb300]? = some (.cells #[.string (⟨#[]⟩ : ByteArray), .string (⟨#[]⟩ : ByteArray), .int .i64 0, .string (⟨#[]⟩ : ByteArray), .int .i64 0, .slice none 0 0] 25 (0, 0))) := ⟨h3_⟩
                  have n4_ : Aside0 (w104.heap[gb302]? = some (.cells #[.string (⟨#[]⟩ : ByteArray), .string (⟨#[]⟩ : ByteArray), .int .i64 0, .string (⟨#[]⟩ : ByteArray), .int .i64 0, .slice none 0 0] 25 (0, 0))) := ⟨h4_⟩
                  have n5_ : Aside0 (w.heap.size ≤ gb300) := ⟨h5_⟩
                  have n6_ : Aside0 (w.heap.size ≤ gb300) := ⟨h6_⟩
                  have n7_ : Aside0 (gb299 ≠ gb300) := ⟨h7_⟩
                  have n8_ : Aside0 (gb300 ≠ gb299) := ⟨h8_⟩
                  have n9_ : Aside0 (gb302 ≠ gb300) := ⟨h9_⟩
                  have n10_ : Aside0 (gb300 ≠ gb302) := ⟨h10_⟩
                  have n11_ : Aside0 (w.heap.size ≤ gb302) := ⟨h11_⟩
                  have n12_ : Aside0 (w.heap.size ≤ gb302) := ⟨h12_⟩
                  have n13_ : Aside0 (gb299 ≠ gb302) := ⟨h13_⟩
                  have n14_ : Aside0 (gb302 ≠ gb299) := ⟨h14_⟩
                  have n15_ : Aside0 (Below w.heap.size w w104) := ⟨h15_⟩
                  clear HO288
                  clear HO298
                  clear BK299
                  clear HB
                  clear h0_ h1_ h2_ h3_ h4_ h5_ h6_ h7_ h8_ h9_ h10_ h11_ h12_ h13_ h14_ h15_
                  have HO288 := n0_
                  have HO298 := n1_
                  have BK299 := n2_
                  have BK300 := n3_
                  have BK302 := n4_
                  have GW300 := n5_
                  have GE300 := n6_
                  have NB299_300 := n7_
                  have NB300_299 := n8_
                  have NB302_300 := n9_
                  have NB300_302 := n10_
                  have GW302 := n11_
                  have GE302 := n12_
                  have NB299_302 := n13_
                  have NB302_299 := n14_
                  have HB := n15_
                  clear n0_ n1_ n2_ n3_ n4_ n5_ n6_ n7_ n8_ n9_ n10_ n11_ n12_ n13_ n14_ n15_
                  have hHeld : w104.cell? ⟨gb299, 0, none⟩ = some (.string t291) ∧ w104.cell? ⟨gb299, 1, none⟩ = some (.string t292) ∧ w104.cell? ⟨gb299, 2, none⟩ = some (.int .i64 t293) ∧ w104.cell? ⟨gb299, 3, none⟩ = some (.string t294) ∧ w104.cell? ⟨gb299, 4, none⟩ = some (.int .i64 t295) ∧ w104.cell? ⟨gb299, 5, none⟩ = some (.slice Ao99 t296.length co99) := hS_
                  refine norm_ (a' := ?_) ?_ ?_
                  rotate_left
                  ·simp only [putAll, Act.put, List.setIfInBounds_toArray, List.set_cons_zero, List.set_cons_succ]
                   rfl
                  refine one_ (i := 4) (N := some 15) #[true, true, true, true, true, true, false, false, false] rfl rfl (one_of HT_.out (by kernel_rfl)) (by decide) (fun K hK => ?_)
                  refine box_step ?hg (N := 15) ?hd (cs := #[.string (⟨#[]⟩ : ByteArray), .string (⟨#[]⟩ : ByteArray), .int .i64 0, .string (⟨#[]⟩ : ByteArray), .int .i64 0, .slice none 0 0]) (t := 25) ?hr ?_; (case hd => rfl); (case hg => rfl); (case hr => first | (go_simp; done) | (go_simp; rfl))
                  intro gb301 hg w105 hbox hb
                  have n0_ := aM (Kd.R_below (by (with_reducible repeat (first | apply rA | apply rN | apply rD)); exact HO288.out) hb)
                  have n1_ := aM (Kd.R_below (by (with_reducible repeat (first | apply rA | apply rN | apply rD)); exact HO298.out) hb)
                  have n2_ := aM (blk_below (g := gb299) (o := .cells #[.string t291, .string t292, .int .i64 t293, .string t294, .int .i64 t295, .slice Ao99 t296.length co99] 25 (0, 0)) (by (with_reducible repeat (first | refine bN ?_ _ | refine bD ?_ | refine bA ?_ _)); exact BK299.out) hb)
                  have n3_ := aM (blk_below (g := gb300) (o := .cells #[.string (⟨#[]⟩ : ByteArray), .string (⟨#[]⟩ : ByteArray), .int .i64 0, .string (⟨#[]⟩ : ByteArray), .int .i64 0, .slice none 0 0] 25 (0, 0)) (by (with_reducible repeat (first | refine bN ?_ _ | refine bD ?_ | refine bA ?_ _)); exact BK300.out) hb)
                  have n4_ := aM (blk_below (g := gb302) (o := .cells #[.string (⟨#[]⟩ : ByteArray), .string (⟨#[]⟩ : ByteArray), .int .i64 0, .string (⟨#[]⟩ : ByteArray), .int .i64 0, .slice none 0 0] 25 (0, 0)) (by (with_reducible repeat (first | refine bN ?_ _ | refine bD ?_ | refine bA ?_ _)); exact BK302.out) hb)
                  have n5_ := aM (below_step (by repeat (first | (with_reducible first | exact HB.out | apply lA | apply lN | apply lD | refine below_set ?_ GE299.out | refine below_set ?_ GE300.out | refine below_set ?_ GE302.out) | exact HB.out)) hb)
                  have n6_ := aM (hbox)
                  have n7_ := aM ((by rw [hg]; exact (below_size (by repeat (first | (with_reducible first | exact HB.out | apply lA | apply lN | apply lD | refine below_set ?_ GE299.out | refine below_set ?_ GE300.out | refine below_set ?_ GE302.out) | exact HB.out))) : w.heap.size ≤ gb301))
                  have n8_ := aM ((by rw [hg]; exact (below_size (by repeat (first | (with_reducible first | exact HB.out | apply lA | apply lN | apply lD | refine below_set ?_ GE299.out | refine below_set ?_ GE300.out | refine below_set ?_ GE302.out) | exact HB.out))) : w.heap.size ≤ gb301))
                  have n9_ := aM ((by rw [hg]; exact Nat.ne_of_lt (blk_lt (g := gb299) (o := .cells #[.string t291, .string t292, .int .i64 t293, .string t294, .int .i64 t295, .slice Ao99 t296.length co99] 25 (0, 0)) (by (with_reducible repeat (first | refine bN ?_ _ | refine bD ?_ | refine bA ?_ _)); exact BK299.out)) : gb299 ≠ gb301))
                  have n10_ := aM ((by rw [hg]; exact Nat.ne_of_gt (blk_lt (g := gb299) (o := .cells #[.string t291, .string t292, .int .i64 t293, .string t294, .int .i64 t295, .slice Ao99 t296.length co99] 25 (0, 0)) (by (with_reducible repeat (first | refine bN ?_ _ | refine bD ?_ | refine bA ?_ _)); exact BK299.out)) : gb301 ≠ gb299))
                  have n11_ := aM ((by rw [hg]; exact Nat.ne_of_lt (blk_lt (g := gb300) (o := .cells #[.string (⟨#[]⟩ : ByteArray), .string (⟨#[]⟩ : ByteArray), .int .i64 0, .string (⟨#[]⟩ : ByteArray), .int .i64 0, .slice none 0 0] 25 (0, 0)) (by (with_reducible repeat (first | refine bN ?_ _ | refine bD ?_ | refine bA ?_ _)); exact BK300.out)) : gb300 ≠ gb301))
                  have n12_ := aM ((by rw [hg]; exact Nat.ne_of_gt (blk_lt (g := gb300) (o := .cells #[.string (⟨#[]⟩ : ByteArray), .string (⟨#[]⟩ : ByteArray), .int .i64 0, .string (⟨#[]⟩ : ByteArray), .int .i64 0, .slice none 0 0] 25 (0, 0)) (by (with_reducible repeat (first | refine bN ?_ _ | refine bD ?_ | refine bA ?_ _)); exact BK300.out)) : gb301 ≠ gb300))
                  have n13_ := aM ((by rw [hg]; exact Nat.ne_of_lt (blk_lt (g := gb302) (o := .cells #[.string (⟨#[]⟩ : ByteArray), .string (⟨#[]⟩ : ByteArray), .int .i64 0, .string (⟨#[]⟩ : ByteArray), .int .i64 0, .slice none 0 0] 25 (0, 0)) (by (with_reducible repeat (first | refine bN ?_ _ | refine bD ?_ | refine bA ?_ _)); exact BK302.out)) : gb302 ≠ gb301))
                  have n14_ := aM ((by rw [hg]; exact Nat.ne_of_gt (blk_lt (g := gb302) (o := .cells #[.string (⟨#[]⟩ : ByteArray), .string (⟨#[]⟩ : ByteArray), .int .i64 0, .string (⟨#[]⟩ : ByteArray), .int .i64 0, .slice none 0 0] 25 (0, 0)) (by (with_reducible repeat (first | refine bN ?_ _ | refine bD ?_ | refine bA ?_ _)); exact BK302.out)) : gb301 ≠ gb302))
                  clear HO288
                  clear HO298
                  clear BK299
                  clear BK300
                  clear BK302
                  clear HB
                  have HO288 := n0_
                  have HO298 := n1_
                  have BK299 := n2_
                  have BK300 := n3_
                  have BK302 := n4_
                  have HB := n5_
                  have BK301 := n6_
                  have GW301 := n7_
                  have GE301 := n8_
                  have NB299_301 := n9_
                  have NB301_299 := n10_
                  have NB300_301 := n11_
                  have NB301_300 := n12_
                  have NB302_301 := n13_
                  have NB301_302 := n14_
                  clear n0_ n1_ n2_ n3_ n4_ n5_ n6_ n7_ n8_ n9_ n10_ n11_ n12_ n13_ n14_
                  clear hb hbox hg
                  refine hK.out _ _ ⟨(blk_cell BK299.out 0).trans rfl, (blk_cell BK299.out 1).trans rfl, (blk_cell BK299.out 2).trans rfl, (blk_cell BK299.out 3).trans rfl, (blk_cell BK299.out 4).trans rfl, (blk_cell BK299.out 5).trans rfl⟩ (fun hHeld => ?_)
                  clear hK K
                  refine norm_ (a' := ?_) ?_ ?_
                  rotate_left
                  ·show Act.put _ (some 15) _ = _
                   simp only [Act.put, List.setIfInBounds_toArray, List.set_cons_zero, List.set_cons_succ, i64_w, i32_w]
                   rfl
                  exact norm_ (by first | (simp only [putAll, Act.put, List.setIfInBounds_toArray, List.set_cons_zero, List.set_cons_succ]; done) | (simp only [putAll, Act.put, List.setIfInBounds_toArray, List.set_cons_zero, List.set_cons_succ]; rfl)) (hJ3_4_5 (gb300, gb301, gb302) _ ⟨hHeld, (by (with_reducible repeat (first | apply rA | apply rN | apply rD)); exact HO288.out), (by (with_reducible repeat (first | apply rA | apply rN | apply rD)); exact HO298.out), (by (with_reducible repeat (first | refine bN ?_ _ | refine bD ?_ | refine bA ?_ _)); exact BK299.out), (by (with_reducible repeat (first | refine bN ?_ _ | refine bD ?_ | refine bA ?_ _)); exact BK300.out), (by (with_reducible repeat (first | refine bN ?_ _ | refine bD ?_ | refine bA ?_ _)); exact BK301.out), (by (with_reducible repeat (first | refine bN ?_ _ | refine bD ?_ | refine bA ?_ _)); exact BK302.out), GW300.out, GE300.out, NB299_300.out, NB300_299.out, NB301_300.out, NB300_301.out, NB302_300.out, NB300_302.out, GW301.out, GE301.out, NB299_301.out, NB301_299.out, NB302_301.out, NB301_302.out, GW302.out, GE302.out, NB299_302.out, NB302_299.out, (by repeat (first | (with_reducible first | exact HB.out | apply lA | apply lN | apply lD | refine below_set ?_ GE299.out | refine below_set ?_ GE300.out | refine below_set ?_ GE302.out | refine below_set ?_ GE301.out) | exact HB.out))⟩)
                ·skip
                 rintro ⟨gb300, gb301⟩ w104 ⟨hS_, h0_, h1_, h2_, h3_, h4_, h5_, h6_, h7_, h8_, h9_, h10_, h11_, h12_, h13_, h14_, h15_⟩
                 have n0_ : Aside0 (Kd.R Kd.string 9 w104 w.heap.size (fun _ => True) (.slice (some ad289) y286.length co95) y286) := ⟨h0_⟩
                 have n1_ : Aside0 (Kd.R k32 32 w104 w.heap.size (fun _ => True) (.slice Ao99 t296.length co99) t296) := ⟨h1_⟩
                 have n2_ : Aside0 (w104.heap[gb299]? = some (.cells #[.string t291, .string t292, .int .i64 t293, .string t294, .int .i64 t295, .slice Ao99 t296.length co99] 25 (0, 0))) := ⟨h2_⟩
                 have n3_ : Aside0 (w104.heap[gb300]? = some (.cells #[.string (⟨#[]⟩ : ByteArray), .string (⟨#[]⟩ : ByteArray), .int .i64 0, .string (⟨#[]⟩ : ByteArray), .int .i64 0, .slice none 0 0] 25 (0, 0))) := ⟨h3_⟩
                 have n4_ : Aside0 (w104.heap[gb301]? = some (.cells #[.string (⟨#[]⟩ : ByteArray), .string (⟨#[]⟩ : ByteArray), .int .i64 0, .string (⟨#[]⟩ : ByteArray), .int .i64 0, .slice none 0 0] 25 (0, 0))) := ⟨h4_⟩
                 have n5_ : Aside0 (w.heap.size ≤ gb300) := ⟨h5_⟩
                 have n6_ : Aside0 (w.heap.size ≤ gb300) := ⟨h6_⟩
                 have n7_ : Aside0 (gb299 ≠ gb300) := ⟨h7_⟩
                 have n8_ : Aside0 (gb300 ≠ gb299) := ⟨h8_⟩
                 have n9_ : Aside0 (gb301 ≠ gb300) := ⟨h9_⟩
                 have n10_ : Aside0 (gb300 ≠ gb301) := ⟨h10_⟩
                 have n11_ : Aside0 (w.heap.size ≤ gb301) := ⟨h11_⟩
                 have n12_ : Aside0 (w.heap.size ≤ gb301) := ⟨h12_⟩
                 have n13_ : Aside0 (gb299 ≠ gb301) := ⟨h13_⟩
                 have n14_ : Aside0 (gb301 ≠ gb299) := ⟨h14_⟩
                 have n15_ : Aside0 (Below w.heap.size w w104) := ⟨h15_⟩
                 clear HO288
                 clear HO298
                 clear BK299
                 clear HB
                 clear h0_ h1_ h2_ h3_ h4_ h5_ h6_ h7_ h8_ h9_ h10_ h11_ h12_ h13_ h14_ h15_
                 have HO288 := n0_
                 have HO298 := n1_
                 have BK299 := n2_
                 have BK300 := n3_
                 have BK301 := n4_
                 have GW300 := n5_
                 have GE300 := n6_
                 have NB299_300 := n7_
                 have NB300_299 := n8_
                 have NB301_300 := n9_
                 have NB300_301 := n10_
                 have GW301 := n11_
                 have GE301 := n12_
                 have NB299_301 := n13_
                 have NB301_299 := n14_
                 have HB := n15_
                 clear n0_ n1_ n2_ n3_ n4_ n5_ n6_ n7_ n8_ n9_ n10_ n11_ n12_ n13_ n14_ n15_
                 have hHeld : w104.cell? ⟨gb299, 0, none⟩ = some (.string t291) ∧ w104.cell? ⟨gb299, 1, none⟩ = some (.string t292) ∧ w104.cell? ⟨gb299, 2, none⟩ = some (.int .i64 t293) ∧ w104.cell? ⟨gb299, 3, none⟩ = some (.string t294) ∧ w104.cell? ⟨gb299, 4, none⟩ = some (.int .i64 t295) ∧ w104.cell? ⟨gb299, 5, none⟩ = some (.slice Ao99 t296.length co99) := hS_
                 refine norm_ (a' := ?_) ?_ ?_
                 rotate_left
                 ·simp only [putAll, Act.put, List.setIfInBounds_toArray, List.set_cons_zero, List.set_cons_succ]
                  rfl
                 refine one_ (i := 5) (N := some 16) #[true, true, true, true, true, true, false, false, false] rfl rfl (one_of HT_.out (by kernel_rfl)) (by decide) (fun K hK => ?_)
                 refine box_step ?hg (N := 16) ?hd (cs := #[.string (⟨#[]⟩ : ByteArray), .string (⟨#[]⟩ : ByteArray), .int .i64 0, .string (⟨#[]⟩ : ByteArray), .int .i64 0, .slice none 0 0]) (t := 25) ?hr ?_; (case hd => rfl); (case hg => rfl); (case hr => first | (go_simp; done) | (go_simp; rfl))
                 intro gb302 hg w105 hbox hb
                 have n0_ := aM (Kd.R_below (by (with_reducible repeat (first | apply rA | apply rN | apply rD)); exact HO288.out) hb)
                 have n1_ := aM (Kd.R_below (by (with_reducible repeat (first | apply rA | apply rN | apply rD)); exact HO298.out) hb)
                 have n2_ := aM (blk_below (g := gb299) (o := .cells #[.string t291, .string t292, .int .i64 t293, .string t294, .int .i64 t295, .slice Ao99 t296.length co99] 25 (0, 0)) (by (with_reducible repeat (first | refine bN ?_ _ | refine bD ?_ | refine bA ?_ _)); exact BK299.out) hb)
                 have n3_ := aM (blk_below (g := gb300) (o := .cells #[.string (⟨#[]⟩ : ByteArray), .string (⟨#[]⟩ : ByteArray), .int .i64 0, .string (⟨#[]⟩ : ByteArray), .int .i64 0, .slice none 0 0] 25 (0, 0)) (by (with_reducible repeat (first | refine bN ?_ _ | refine bD ?_ | refine bA ?_ _)); exact BK300.out) hb)
                 have n4_ := aM (blk_below (g := gb301) (o := .cells #[.string (⟨#[]⟩ : ByteArray), .string (⟨#[]⟩ : ByteArray), .int .i64 0, .string (⟨#[]⟩ : ByteArray), .int .i64 0, .slice none 0 0] 25 (0, 0)) (by (with_reducible repeat (first | refine bN ?_ _ | refine bD ?_ | refine bA ?_ _)); exact BK301.out) hb)
                 have n5_ := aM (below_step (by repeat (first | (with_reducible first | exact HB.out | apply lA | apply lN | apply lD | refine below_set ?_ GE299.out | refine below_set ?_ GE300.out | refine below_set ?_ GE301.out) | exact HB.out)) hb)
                 have n6_ := aM (hbox)
                 have n7_ := aM ((by rw [hg]; exact (below_size (by repeat (first | (with_reducible first | exact HB.out | apply lA | apply lN | apply lD | refine below_set ?_ GE299.out | refine below_set ?_ GE300.out | refine below_set ?_ GE301.out) | exact HB.out))) : w.heap.size ≤ gb302))
                 have n8_ := aM ((by rw [hg]; exact (below_size (by repeat (first | (with_reducible first | exact HB.out | apply lA | apply lN | apply lD | refine below_set ?_ GE299.out | refine below_set ?_ GE300.out | refine below_set ?_ GE301.out) | exact HB.out))) : w.heap.size ≤ gb302))
                 have n9_ := aM ((by rw [hg]; exact Nat.ne_of_lt (blk_lt (g := gb299) (o := .cells #[.string t291, .string t292, .int .i64 t293, .string t294, .int .i64 t295, .slice Ao99 t296.length co99] 25 (0, 0)) (by (with_reducible repeat (first | refine bN ?_ _ | refine bD ?_ | refine bA ?_ _)); exact BK299.out)) : gb299 ≠ gb302))
                 have n10_ := aM ((by rw [hg]; exact Nat.ne_of_gt (blk_lt (g := gb299) (o := .cells #[.string t291, .string t292, .int .i64 t293, .string t294, .int .i64 t295, .slice Ao99 t296.length co99] 25 (0, 0)) (by (with_reducible repeat (first | refine bN ?_ _ | refine bD ?_ | refine bA ?_ _)); exact BK299.out)) : gb302 ≠ gb299))
                 have n11_ := aM ((by rw [hg]; exact Nat.ne_of_lt (blk_lt (g := gb300) (o := .cells #[.string (⟨#[]⟩ : ByteArray), .string (⟨#[]⟩ : ByteArray), .int .i64 0, .string (⟨#[]⟩ : ByteArray), .int .i64 0, .slice none 0 0] 25 (0, 0)) (by (with_reducible repeat (first | refine bN ?_ _ | refine bD ?_ | refine bA ?_ _)); exact BK300.out)) : gb300 ≠ gb302))
                 have n12_ := aM ((by rw [hg]; exact Nat.ne_of_gt (blk_lt (g := gb300) (o := .cells #[.string (⟨#[]⟩ : ByteArray), .string (⟨#[]⟩ : ByteArray), .int .i64 0, .string (⟨#[]⟩ : ByteArray), .int .i64 0, .slice none 0 0] 25 (0, 0)) (by (with_reducible repeat (first | refine bN ?_ _ | refine bD ?_ | refine bA ?_ _)); exact BK300.out)) : gb302 ≠ gb300))
                 have n13_ := aM ((by rw [hg]; exact Nat.ne_of_lt (blk_lt (g := gb301) (o := .cells #[.string (⟨#[]⟩ : ByteArray), .string (⟨#[]⟩ : ByteArray), .int .i64 0, .string (⟨#[]⟩ : ByteArray), .int .i64 0, .slice none 0 0] 25 (0, 0)) (by (with_reducible repeat (first | refine bN ?_ _ | refine bD ?_ | refine bA ?_ _)); exact BK301.out)) : gb301 ≠ gb302))
                 have n14_ := aM ((by rw [hg]; exact Nat.ne_of_gt (blk_lt (g := gb301) (o := .cells #[.string (⟨#[]⟩ : ByteArray), .string (⟨#[]⟩ : ByteArray), .int .i64 0, .string (⟨#[]⟩ : ByteArray), .int .i64 0, .slice none 0 0] 25 (0, 0)) (by (with_reducible repeat (first | refine bN ?_ _ | refine bD ?_ | refine bA ?_ _)); exact BK301.out)) : gb302 ≠ gb301))
                 clear HO288
                 clear HO298
                 clear BK299
                 clear BK300
                 clear BK301
                 clear HB
                 have HO288 := n0_
                 have HO298 := n1_
                 have BK299 := n2_
                 have BK300 := n3_
                 have BK301 := n4_
                 have HB := n5_
                 have BK302 := n6_
                 have GW302 := n7_
                 have GE302 := n8_
                 have NB299_302 := n9_
                 have NB302_299 := n10_
                 have NB300_302 := n11_
                 have NB302_300 := n12_
                 have NB301_302 := n13_
                 have NB302_301 := n14_
                 clear n0_ n1_ n2_ n3_ n4_ n5_ n6_ n7_ n8_ n9_ n10_ n11_ n12_ n13_ n14_
                 clear hb hbox hg
                 refine hK.out _ _ ⟨(blk_cell BK299.out 0).trans rfl, (blk_cell BK299.out 1).trans rfl, (blk_cell BK299.out 2).trans rfl, (blk_cell BK299.out 3).trans rfl, (blk_cell BK299.out 4).trans rfl, (blk_cell BK299.out 5).trans rfl⟩ (fun hHeld => ?_)
                 clear hK K
                 refine norm_ (a' := ?_) ?_ ?_
                 rotate_left
                 ·show Act.put _ (some 16) _ = _
                  simp only [Act.put, List.setIfInBounds_toArray, List.set_cons_zero, List.set_cons_succ, i64_w, i32_w]
                  rfl
                 exact norm_ (by first | (simp only [putAll, Act.put, List.setIfInBounds_toArray, List.set_cons_zero, List.set_cons_succ]; done) | (simp only [putAll, Act.put, List.setIfInBounds_toArray, List.set_cons_zero, List.set_cons_succ]; rfl)) (hJ3_4_5 (gb300, gb301, gb302) _ ⟨hHeld, (by (with_reducible repeat (first | apply rA | apply rN | apply rD)); exact HO288.out), (by (with_reducible repeat (first | apply rA | apply rN | apply rD)); exact HO298.out), (by (with_reducible repeat (first | refine bN ?_ _ | refine bD ?_ | refine bA ?_ _)); exact BK299.out), (by (with_reducible repeat (first | refine bN ?_ _ | refine bD ?_ | refine bA ?_ _)); exact BK300.out), (by (with_reducible repeat (first | refine bN ?_ _ | refine bD ?_ | refine bA ?_ _)); exact BK301.out), (by (with_reducible repeat (first | refine bN ?_ _ | refine bD ?_ | refine bA ?_ _)); exact BK302.out), GW300.out, GE300.out, NB299_300.out, NB300_299.out, NB301_300.out, NB300_301.out, NB302_300.out, NB300_302.out, GW301.out, GE301.out, NB299_301.out, NB301_299.out, NB302_301.out, NB301_302.out, GW302.out, GE302.out, NB299_302.out, NB302_299.out, (by repeat (first | (with_reducible first | exact HB.out | apply lA | apply lN | apply lD | refine below_set ?_ GE299.out | refine below_set ?_ GE300.out | refine below_set ?_ GE301.out | refine below_set ?_ GE302.out) | exact HB.out))⟩)
               rintro ⟨gb300, gb301, gb302⟩ w105 ⟨hS_, h0_, h1_, h2_, h3_, h4_, h5_, h6_, h7_, h8_, h9_, h10_, h11_, h12_, h13_, h14_, h15_, h16_, h17_, h18_, h19_, h20_, h21_, h22_, h23_, h24_⟩
               have n0_ : Aside0 (Kd.R Kd.string 9 w105 w.heap.size (fun _ => True) (.slice (some ad289) y286.length co95) y286) := ⟨h0_⟩
               have n1_ : Aside0 (Kd.R k32 32 w105 w.heap.size (fun _ => True) (.slice Ao99 t296.length co99) t296) := ⟨h1_⟩
               have n2_ : Aside0 (w105.heap[gb299]? = some (.cells #[.string t291, .string t292, .int .i64 t293, .string t294, .int .i64 t295, .slice Ao99 t296.length co99] 25 (0, 0))) := ⟨h2_⟩
               have n3_ : Aside0 (w105.heap[gb300]? = some (.cells #[.string (⟨#[]⟩ : ByteArray), .string (⟨#[]⟩ : ByteArray), .int .i64 0, .string (⟨#[]⟩ : ByteArray), .int .i64 0, .slice none 0 0] 25 (0, 0))) := ⟨h3_⟩
               have n4_ : Aside0 (w105.heap[gb301]? = some (.cells #[.string (⟨#[]⟩ : ByteArray), .string (⟨#[]⟩ : ByteArray), .int .i64 0, .string (⟨#[]⟩ : ByteArray), .int .i64 0, .slice none 0 0] 25 (0, 0))) := ⟨h4_⟩
               have n5_ : Aside0 (w105.heap[gb302]? = some (.cells #[.string (⟨#[]⟩ : ByteArray), .string (⟨#[]⟩ : ByteArray), .int .i64 0, .string (⟨#[]⟩ : ByteArray), .int .i64 0, .slice none 0 0] 25 (0, 0))) := ⟨h5_⟩
               have n6_ : Aside0 (w.heap.size ≤ gb300) := ⟨h6_⟩
               have n7_ : Aside0 (w.heap.size ≤ gb300) := ⟨h7_⟩
               have n8_ : Aside0 (gb299 ≠ gb300) := ⟨h8_⟩
               have n9_ : Aside0 (gb300 ≠ gb299) := ⟨h9_⟩
               have n10_ : Aside0 (gb301 ≠ gb300) := ⟨h10_⟩
               have n11_ : Aside0 (gb300 ≠ gb301) := ⟨h11_⟩
               have n12_ : Aside0 (gb302 ≠ gb300) := ⟨h12_⟩
               have n13_ : Aside0 (gb300 ≠ gb302) := ⟨h13_⟩
               have n14_ : Aside0 (w.heap.size ≤ gb301) := ⟨h14_⟩
               have n15_ : Aside0 (w.heap.size ≤ gb301) := ⟨h15_⟩
               have n16_ : Aside0 (gb299 ≠ gb301) := ⟨h16_⟩
               have n17_ : Aside0 (gb301 ≠ gb299) := ⟨h17_⟩
               have n18_ : Aside0 (gb302 ≠ gb301) := ⟨h18_⟩
               have n19_ : Aside0 (gb301 ≠ gb302) := ⟨h19_⟩
               have n20_ : Aside0 (w.heap.size ≤ gb302) := ⟨h20_⟩
               have n21_ : Aside0 (w.heap.size ≤ gb302) := ⟨h21_⟩
               have n22_ : Aside0 (gb299 ≠ gb302) := ⟨h22_⟩
               have n23_ : Aside0 (gb302 ≠ gb299) := ⟨h23_⟩
               have n24_ : Aside0 (Below w.heap.size w w105) := ⟨h24_⟩
               clear HO288
               clear HO298
               clear BK299
               clear HB
               clear h0_ h1_ h2_ h3_ h4_ h5_ h6_ h7_ h8_ h9_ h10_ h11_ h12_ h13_ h14_ h15_ h16_ h17_ h18_ h19_ h20_ h21_ h22_ h23_ h24_
               have HO288 := n0_
               have HO298 := n1_
               have BK299 := n2_
               have BK300 := n3_
               have BK301 := n4_
               have BK302 := n5_
               have GW300 := n6_
               have GE300 := n7_
               have NB299_300 := n8_
               have NB300_299 := n9_
               have NB301_300 := n10_
               have NB300_301 := n11_
               have NB302_300 := n12_
               have NB300_302 := n13_
               have GW301 := n14_
               have GE301 := n15_
               have NB299_301 := n16_
               have NB301_299 := n17_
               have NB302_301 := n18_
               have NB301_302 := n19_
               have GW302 := n20_
               have GE302 := n21_
               have NB299_302 := n22_
               have NB302_299 := n23_
               have HB := n24_
               clear n0_ n1_ n2_ n3_ n4_ n5_ n6_ n7_ n8_ n9_ n10_ n11_ n12_ n13_ n14_ n15_ n16_ n17_ n18_ n19_ n20_ n21_ n22_ n23_ n24_
               have hHeld : w105.cell? ⟨gb299, 0, none⟩ = some (.string t291) ∧ w105.cell? ⟨gb299, 1, none⟩ = some (.string t292) ∧ w105.cell? ⟨gb299, 2, none⟩ = some (.int .i64 t293) ∧ w105.cell? ⟨gb299, 3, none⟩ = some (.string t294) ∧ w105.cell? ⟨gb299, 4, none⟩ = some (.int .i64 t295) ∧ w105.cell? ⟨gb299, 5, none⟩ = some (.slice Ao99 t296.length co99) := hS_
               refine norm_ (a' := ?_) ?_ ?_
               rotate_left
               ·simp only [putAll, Act.put, List.setIfInBounds_toArray, List.set_cons_zero, List.set_cons_succ]
                rfl
               refine one_ (i := 6) (N := none) #[true, true, true, true, true, true, true, false, false] rfl rfl (one_of HT_.out (by kernel_rfl)) (by decide) (fun K hK => ?_)
               have hs106 : w105.cell? ⟨gb300, 0, none⟩ = some (.string (⟨#[]⟩ : ByteArray)) := (blk_cell BK300.out 0).trans rfl
               have hfs106 := blk_frozen BK300.out 0
               have hns106_0 := NB299_300.out
               have hns106_2 := NB301_300.out
               have hns106_3 := NB302_300.out
               have hms106_0 := NB300_299.out
               have hms106_2 := NB300_301.out
               have hms106_3 := NB300_302.out
               have hs107 : w105.cell? ⟨gb300, 1, none⟩ = some (.string (⟨#[]⟩ : ByteArray)) := (blk_cell BK300.out 1).trans rfl
               have hfs107 := blk_frozen BK300.out 1
               have hns107_0 := NB299_300.out
               have hns107_2 := NB301_300.out
               have hns107_3 := NB302_300.out
               have hms107_0 := NB300_299.out
               have hms107_2 := NB300_301.out
               have hms107_3 := NB300_302.out
               have hs108 : w105.cell? ⟨gb300, 2, none⟩ = some (.int .i64 0) := (blk_cell BK300.out 2).trans rfl
               have hfs108 := blk_frozen BK300.out 2
               have hns108_0 := NB299_300.out
               have hns108_2 := NB301_300.out
               have hns108_3 := NB302_300.out
               have hms108_0 := NB300_299.out
               have hms108_2 := NB300_301.out
               have hms108_3 := NB300_302.out
               have hs109 : w105.cell? ⟨gb300, 3, none⟩ = some (.string (⟨#[]⟩ : ByteArray)) := (blk_cell BK300.out 3).trans rfl
               have hfs109 := blk_frozen BK300.out 3
               have hns109_0 := NB299_300.out
               have hns109_2 := NB301_300.out
               have hns109_3 := NB302_300.out
               have hms109_0 := NB300_299.out
               have hms109_2 := NB300_301.out
               have hms109_3 := NB300_302.out
               have hs110 : w105.cell? ⟨gb300, 4, none⟩ = some (.int .i64 0) := (blk_cell BK300.out 4).trans rfl
               have hfs110 := blk_frozen BK300.out 4
               have hns110_0 := NB299_300.out
               have hns110_2 := NB301_300.out
               have hns110_3 := NB302_300.out
               have hms110_0 := NB300_299.out
               have hms110_2 := NB300_301.out
               have hms110_3 := NB300_302.out
               have hs111 : w105.cell? ⟨gb300, 5, none⟩ = some (.slice none 0 0) := (blk_cell BK300.out 5).trans rfl
               have hfs111 := blk_frozen BK300.out 5
               have hns111_0 := NB299_300.out
               have hns111_2 := NB301_300.out
               have hns111_3 := NB302_300.out
               have hms111_0 := NB300_299.out
               have hms111_2 := NB300_301.out
               have hms111_3 := NB300_302.out
               refine skip_ (w1 := ?_) ?ha4 ?hb4 ?hc4 ?hd4
               case ha4 => rfl
               case hb4 => rfl
               case hc4 => go_simp; rfl
               refine hK.out _ _ ⟨(far6 NB299_300.out hHeld.1), (far6 NB299_300.out hHeld.2.1), (far6 NB299_300.out hHeld.2.2.1), (far6 NB299_300.out hHeld.2.2.2.1), (far6 NB299_300.out hHeld.2.2.2.2.1), (far6 NB299_300.out hHeld.2.2.2.2.2)⟩ (fun hHeld => ?_)
               clear hK K
               refine one_ (i := 7) (N := none) #[true, true, true, true, true, true, true, true, false] rfl rfl (one_of HT_.out (by kernel_rfl)) (by decide) (fun K hK => ?_)
               have hs112 : w105.cell? ⟨gb301, 0, none⟩ = some (.string (⟨#[]⟩ : ByteArray)) := (blk_cell BK301.out 0).trans rfl
               have hfs112 := blk_frozen BK301.out 0
               have hns112_0 := NB299_301.out
               have hns112_1 := NB300_301.out
               have hns112_3 := NB302_301.out
               have hms112_0 := NB301_299.out
               have hms112_1 := NB301_300.out
               have hms112_3 := NB301_302.out
               have hs113 : w105.cell? ⟨gb301, 1, none⟩ = some (.string (⟨#[]⟩ : ByteArray)) := (blk_cell BK301.out 1).trans rfl
               have hfs113 := blk_frozen BK301.out 1
               have hns113_0 := NB299_301.out
               have hns113_1 := NB300_301.out
               have hns113_3 := NB302_301.out
               have hms113_0 := NB301_299.out
               have hms113_1 := NB301_300.out
               have hms113_3 := NB301_302.out
               have hs114 : w105.cell? ⟨gb301, 2, none⟩ = some (.int .i64 0) := (blk_cell BK301.out 2).trans rfl
               have hfs114 := blk_frozen BK301.out 2
               have hns114_0 := NB299_301.out
               have hns114_1 := NB300_301.out
               have hns114_3 := NB302_301.out
               have hms114_0 := NB301_299.out
               have hms114_1 := NB301_300.out
               have hms114_3 := NB301_302.out
               have hs115 : w105.cell? ⟨gb301, 3, none⟩ = some (.string (⟨#[]⟩ : ByteArray)) := (blk_cell BK301.out 3).trans rfl
               have hfs115 := blk_frozen BK301.out 3
               have hns115_0 := NB299_301.out
               have hns115_1 := NB300_301.out
               have hns115_3 := NB302_301.out
               have hms115_0 := NB301_299.out
               have hms115_1 := NB301_300.out
               have hms115_3 := NB301_302.out
               have hs116 : w105.cell? ⟨gb301, 4, none⟩ = some (.int .i64 0) := (blk_cell BK301.out 4).trans rfl
               have hfs116 := blk_frozen BK301.out 4
               have hns116_0 := NB299_301.out
               have hns116_1 := NB300_301.out
               have hns116_3 := NB302_301.out
               have hms116_0 := NB301_299.out
               have hms116_1 := NB301_300.out
               have hms116_3 := NB301_302.out
               have hs117 : w105.cell? ⟨gb301, 5, none⟩ = some (.slice none 0 0) := (blk_cell BK301.out 5).trans rfl
               have hfs117 := blk_frozen BK301.out 5
               have hns117_0 := NB299_301.out
               have hns117_1 := NB300_301.out
               have hns117_3 := NB302_301.out
               have hms117_0 := NB301_299.out
               have hms117_1 := NB301_300.out
               have hms117_3 := NB301_302.out
               refine skip_ (w1 := ?_) ?ha5 ?hb5 ?hc5 ?hd5
               case ha5 => rfl
               case hb5 => rfl
               case hc5 => go_simp; rfl
               refine hK.out _ _ ⟨(far6 NB299_301.out hHeld.1), (far6 NB299_301.out hHeld.2.1), (far6 NB299_301.out hHeld.2.2.1), (far6 NB299_301.out hHeld.2.2.2.1), (far6 NB299_301.out hHeld.2.2.2.2.1), (far6 NB299_301.out hHeld.2.2.2.2.2)⟩ (fun hHeld => ?_)
               clear hK K
               refine one_ (i := 8) (N := none) #[true, true, true, true, true, true, true, true, true] rfl rfl (one_of HT_.out (by kernel_rfl)) (by decide) (fun K hK => ?_)
               have hs118 : w105.cell? ⟨gb302, 0, none⟩ = some (.string (⟨#[]⟩ : ByteArray)) := (blk_cell BK302.out 0).trans rfl
               have hfs118 := blk_frozen BK302.out 0
               have hns118_0 := NB299_302.out
               have hns118_1 := NB300_302.out
               have hns118_2 := NB301_302.out
               have hms118_0 := NB302_299.out
               have hms118_1 := NB302_300.out
               have hms118_2 := NB302_301.out
               have hs119 : w105.cell? ⟨gb302, 1, none⟩ = some (.string (⟨#[]⟩ : ByteArray)) := (blk_cell BK302.out 1).trans rfl
               have hfs119 := blk_frozen BK302.out 1
               have hns119_0 := NB299_302.out
               have hns119_1 := NB300_302.out
               have hns119_2 := NB301_302.out
               have hms119_0 := NB302_299.out
               have hms119_1 := NB302_300.out
               have hms119_2 := NB302_301.out
               have hs120 : w105.cell? ⟨gb302, 2, none⟩ = some (.int .i64 0) := (blk_cell BK302.out 2).trans rfl
               have hfs120 := blk_frozen BK302.out 2
               have hns120_0 := NB299_302.out
               have hns120_1 := NB300_302.out
               have hns120_2 := NB301_302.out
               have hms120_0 := NB302_299.out
               have hms120_1 := NB302_300.out
               have hms120_2 := NB302_301.out
               have hs121 : w105.cell? ⟨gb302, 3, none⟩ = some (.string (⟨#[]⟩ : ByteArray)) := (blk_cell BK302.out 3).trans rfl
               have hfs121 := blk_frozen BK302.out 3
               have hns121_0 := NB299_302.out
               have hns121_1 := NB300_302.out
               have hns121_2 := NB301_302.out
               have hms121_0 := NB302_299.out
               have hms121_1 := NB302_300.out
               have hms121_2 := NB302_301.out
               have hs122 : w105.cell? ⟨gb302, 4, none⟩ = some (.int .i64 0) := (blk_cell BK302.out 4).trans rfl
               have hfs122 := blk_frozen BK302.out 4
               have hns122_0 := NB299_302.out
               have hns122_1 := NB300_302.out
               have hns122_2 := NB301_302.out
               have hms122_0 := NB302_299.out
               have hms122_1 := NB302_300.out
               have hms122_2 := NB302_301.out
               have hs123 : w105.cell? ⟨gb302, 5, none⟩ = some (.slice none 0 0) := (blk_cell BK302.out 5).trans rfl
               have hfs123 := blk_frozen BK302.out 5
               have hns123_0 := NB299_302.out
               have hns123_1 := NB300_302.out
               have hns123_2 := NB301_302.out
               have hms123_0 := NB302_299.out
               have hms123_1 := NB302_300.out
               have hms123_2 := NB302_301.out
               refine skip_ (w1 := ?_) ?ha6 ?hb6 ?hc6 ?hd6
               case ha6 => rfl
               case hb6 => rfl
               case hc6 => go_simp; rfl
               refine hK.out _ _ ⟨(far6 NB299_302.out hHeld.1), (far6 NB299_302.out hHeld.2.1), (far6 NB299_302.out hHeld.2.2.1), (far6 NB299_302.out hHeld.2.2.2.1), (far6 NB299_302.out hHeld.2.2.2.2.1), (far6 NB299_302.out hHeld.2.2.2.2.2)⟩ (fun hHeld => ?_)
               clear hK K
               refine done_ (done_of HT_.out (by kernel_rfl)) ?_
               have hnb124 := NB299_300.out
               have hnc124 := NB300_299.out
               have hnb125 := NB299_301.out
               have hnc125 := NB301_299.out
               have hnb126 := NB299_302.out
               have hnc126 := NB302_299.out
               have hcz127_0 : w105.cell? ⟨gb299, 0, none⟩ = some (.string t291) := (blk_cell BK299.out 0).trans rfl
               have hcz127_1 : w105.cell? ⟨gb299, 1, none⟩ = some (.string t292) := (blk_cell BK299.out 1).trans rfl
               have hcz127_2 : w105.cell? ⟨gb299, 2, none⟩ = some (.int .i64 t293) := (blk_cell BK299.out 2).trans rfl
               have hcz127_3 : w105.cell? ⟨gb299, 3, none⟩ = some (.string t294) := (blk_cell BK299.out 3).trans rfl
               have hcz127_4 : w105.cell? ⟨gb299, 4, none⟩ = some (.int .i64 t295) := (blk_cell BK299.out 4).trans rfl
               have hcz127_5 : w105.cell? ⟨gb299, 5, none⟩ = some (.slice Ao99 t296.length co99) := (blk_cell BK299.out 5).trans rfl
               have hfz127_0 := blk_frozen BK299.out 0
               have hfz127_1 := blk_frozen BK299.out 1
               have hfz127_2 := blk_frozen BK299.out 2
               have hfz127_3 := blk_frozen BK299.out 3
               have hfz127_4 := blk_frozen BK299.out 4
               have hfz127_5 := blk_frozen BK299.out 5
               try go_wp2_with (first | ((with_reducible refine gate_builtin (b := .append) (xs := #[.const (.slice none 0 0), .tmp 40]) rfl ?_); at_builtin; refine Kd.R_append_rows k32 (w0 := w) w.heap.size rfl (.const (.slice none 0 0)) (.tmp 40) 23 32 (.agg #[(.string ⟨#[]⟩), (.string ⟨#[]⟩)]) 32 rfl Tryd.underlying23 info32 rfl (by decide) (by omega) (.slice none 0 0) ([] : List (S32)) t296 _ _ _ (fun k_ => some k_ ≠ (.slice Ao99 t296.length co99 : Value).ownBlock) (fun _ => False) rfl rfl ?aO ?aR (fun _ _ h => h) (fun _ h => h.elim) ?aF ?aB ?aS ?aL ?_; (case aR => refine (Kd.R_reads' (e := 32) (base := w.heap.size) (ok := fun k_ => True) (n := t296.length) (c := co99) ?_).2.2; exact (by (with_reducible repeat (first | apply rA | apply rN | apply rD)); exact (Kd.R_mono (Kd.R_mono (Kd.R_mono (Kd.R_far (p := ⟨gb302, 5, none⟩) (Kd.R_far (p := ⟨gb302, 4, none⟩) (Kd.R_far (p := ⟨gb302, 3, none⟩) (Kd.R_far (p := ⟨gb302, 2, none⟩) (Kd.R_far (p := ⟨gb302, 1, none⟩) (Kd.R_far (p := ⟨gb302, 0, none⟩) (Kd.R_far (p := ⟨gb301, 5, none⟩) (Kd.R_far (p := ⟨gb301, 4, none⟩) (Kd.R_far (p := ⟨gb301, 3, none⟩) (Kd.R_far (p := ⟨gb301, 2, none⟩) (Kd.R_far (p := ⟨gb301, 1, none⟩) (Kd.R_far (p := ⟨gb301, 0, none⟩) (Kd.R_far (p := ⟨gb300, 5, none⟩) (Kd.R_far (p := ⟨gb300, 4, none⟩) (Kd.R_far (p := ⟨gb300, 3, none⟩) (Kd.R_far (p := ⟨gb300, 2, none⟩) (Kd.R_far (p := ⟨gb300, 1, none⟩) (Kd.R_far (p := ⟨gb300, 0, none⟩) (Kd.R_types (Kd.R_types (Kd.R_types HO298.out BK300.out (by decide)) BK301.out (by decide)) BK302.out (by decide)) (fun _ hk => hk.1.1.2) (.string t291)) (fun _ hk => hk.1.1.2) (.string t292)) (fun _ hk => hk.1.1.2) (.int .i64 t293)) (fun _ hk => hk.1.1.2) (.string t294)) (fun _ hk => hk.1.1.2) (.int .i64 t295)) (fun _ hk => hk.1.1.2) (.slice Ao99 t296.length co99)) (fun _ hk => hk.1.2) (.string t291)) (fun _ hk => hk.1.2) (.string t292)) (fun _ hk => hk.1.2) (.int .i64 t293)) (fun _ hk => hk.1.2) (.string t294)) (fun _ hk => hk.1.2) (.int .i64 t295)) (fun _ hk => hk.1.2) (.slice Ao99 t296.length co99)) (fun _ hk => hk.2) (.string t291)) (fun _ hk => hk.2) (.string t292)) (fun _ hk => hk.2) (.int .i64 t293)) (fun _ hk => hk.2) (.string t294)) (fun _ hk => hk.2) (.int .i64 t295)) (fun _ hk => hk.2) (.slice Ao99 t296.length co99)) (fun _ h_ => h_.1)) (fun _ h_ => h_.1)) (fun _ h_ => h_.1)))); (case aB => exact (by repeat (first | (with_reducible first | exact HB.out | apply lA | apply lN | apply lD | refine below_set ?_ GE299.out | refine below_set ?_ GE300.out | refine below_set ?_ GE301.out | refine below_set ?_ GE302.out) | exact HB.out))); (case aF => exact (fun k_ hk => Kd.fresh' (Kd.R_lt (by (with_reducible repeat (first | apply rA | apply rN | apply rD)); exact (Kd.R_mono (Kd.R_mono (Kd.R_mono (Kd.R_far (p := ⟨gb302, 5, none⟩) (Kd.R_far (p := ⟨gb302, 4, none⟩) (Kd.R_far (p := ⟨gb302, 3, none⟩) (Kd.R_far (p := ⟨gb302, 2, none⟩) (Kd.R_far (p := ⟨gb302, 1, none⟩) (Kd.R_far (p := ⟨gb302, 0, none⟩) (Kd.R_far (p := ⟨gb301, 5, none⟩) (Kd.R_far (p := ⟨gb301, 4, none⟩) (Kd.R_far (p := ⟨gb301, 3, none⟩) (Kd.R_far (p := ⟨gb301, 2, none⟩) (Kd.R_far (p := ⟨gb301, 1, none⟩) (Kd.R_far (p := ⟨gb301, 0, none⟩) (Kd.R_far (p := ⟨gb300, 5, none⟩) (Kd.R_far (p := ⟨gb300, 4, none⟩) (Kd.R_far (p := ⟨gb300, 3, none⟩) (Kd.R_far (p := ⟨gb300, 2, none⟩) (Kd.R_far (p := ⟨gb300, 1, none⟩) (Kd.R_far (p := ⟨gb300, 0, none⟩) (Kd.R_types (Kd.R_types (Kd.R_types HO298.out BK300.out (by decide)) BK301.out (by decide)) BK302.out (by decide)) (fun _ hk => hk.1.1.2) (.string t291)) (fun _ hk => hk.1.1.2) (.string t292)) (fun _ hk => hk.1.1.2) (.int .i64 t293)) (fun _ hk => hk.1.1.2) (.string t294)) (fun _ hk => hk.1.1.2) (.int .i64 t295)) (fun _ hk => hk.1.1.2) (.slice Ao99 t296.length co99)) (fun _ hk => hk.1.2) (.string t291)) (fun _ hk => hk.1.2) (.string t292)) (fun _ hk => hk.1.2) (.int .i64 t293)) (fun _ hk => hk.1.2) (.string t294)) (fun _ hk => hk.1.2) (.int .i64 t295)) (fun _ hk => hk.1.2) (.slice Ao99 t296.length co99)) (fun _ hk => hk.2) (.string t291)) (fun _ hk => hk.2) (.string t292)) (fun _ hk => hk.2) (.int .i64 t293)) (fun _ hk => hk.2) (.string t294)) (fun _ hk => hk.2) (.int .i64 t295)) (fun _ hk => hk.2) (.slice Ao99 t296.length co99)) (fun _ h_ => h_.1)) (fun _ h_ => h_.1)) (fun _ h_ => h_.1)))) k_ hk)); (case aO => exact ((Kd.R_nil _ _ _ _ (fun k_ => some k_ ≠ (.slice Ao99 t296.length co99 : Value).ownBlock)))); (case aS => exact (below_size (by repeat (first | (with_reducible first | exact HB.out | apply lA | apply lN | apply lD | refine below_set ?_ GE299.out | refine below_set ?_ GE300.out | refine below_set ?_ GE301.out | refine below_set ?_ GE302.out) | exact HB.out)))); (case aL => have := LMc14.out; omega); intro v304 w128 ho hb hg hat; rw [← Ny303.out] at ho; have n0_ := aM (Kd.R_grown (by (with_reducible repeat (first | apply rA | apply rN | apply rD)); exact (Kd.R_mono (Kd.R_mono (Kd.R_mono (Kd.R_far (p := ⟨gb302, 5, none⟩) (Kd.R_far (p := ⟨gb302, 4, none⟩) (Kd.R_far (p := ⟨gb302, 3, none⟩) (Kd.R_far (p := ⟨gb302, 2, none⟩) (Kd.R_far (p := ⟨gb302, 1, none⟩) (Kd.R_far (p := ⟨gb302, 0, none⟩) (Kd.R_far (p := ⟨gb301, 5, none⟩) (Kd.R_far (p := ⟨gb301, 4, none⟩) (Kd.R_far (p := ⟨gb301, 3, none⟩) (Kd.R_far (p := ⟨gb301, 2, none⟩) (Kd.R_far (p := ⟨gb301, 1, none⟩) (Kd.R_far (p := ⟨gb301, 0, none⟩) (Kd.R_far (p := ⟨gb300, 5, none⟩) (Kd.R_far (p := ⟨gb300, 4, none⟩) (Kd.R_far (p := ⟨gb300, 3, none⟩) (Kd.R_far (p := ⟨gb300, 2, none⟩) (Kd.R_far (p := ⟨gb300, 1, none⟩) (Kd.R_far (p := ⟨gb300, 0, none⟩) (Kd.R_types (Kd.R_types (Kd.R_types HO288.out BK300.out (by decide)) BK301.out (by decide)) BK302.out (by decide)) (fun _ hk => hk.1.1.2) (.string t291)) (fun _ hk => hk.1.1.2) (.string t292)) (fun _ hk => hk.1.1.2) (.int .i64 t293)) (fun _ hk => hk.1.1.2) (.string t294)) (fun _ hk => hk.1.1.2) (.int .i64 t295)) (fun _ hk => hk.1.1.2) (.slice Ao99 t296.length co99)) (fun _ hk => hk.1.2) (.string t291)) (fun _ hk => hk.1.2) (.string t292)) (fun _ hk => hk.1.2) (.int .i64 t293)) (fun _ hk => hk.1.2) (.string t294)) (fun _ hk => hk.1.2) (.int .i64 t295)) (fun _ hk => hk.1.2) (.slice Ao99 t296.length co99)) (fun _ hk => hk.2) (.string t291)) (fun _ hk => hk.2) (.string t292)) (fun _ hk => hk.2) (.int .i64 t293)) (fun _ hk => hk.2) (.string t294)) (fun _ hk => hk.2) (.int .i64 t295)) (fun _ hk => hk.2) (.slice Ao99 t296.length co99)) (fun _ h_ => h_.1)) (fun _ h_ => h_.1)) (fun _ h_ => h_.1))) hg (fun _ _ => by simp [Value.ownBlock])); have n1_ := aM (Kd.R_after (Kd.R_apart_nil (by (with_reducible repeat (first | apply rA | apply rN | apply rD)); exact (Kd.R_mono (Kd.R_mono (Kd.R_mono (Kd.R_far (p := ⟨gb302, 5, none⟩) (Kd.R_far (p := ⟨gb302, 4, none⟩) (Kd.R_far (p := ⟨gb302, 3, none⟩) (Kd.R_far (p := ⟨gb302, 2, none⟩) (Kd.R_far (p := ⟨gb302, 1, none⟩) (Kd.R_far (p := ⟨gb302, 0, none⟩) (Kd.R_far (p := ⟨gb301, 5, none⟩) (Kd.R_far (p := ⟨gb301, 4, none⟩) (Kd.R_far (p := ⟨gb301, 3, none⟩) (Kd.R_far (p := ⟨gb301, 2, none⟩) (Kd.R_far (p := ⟨gb301, 1, none⟩) (Kd.R_far (p := ⟨gb301, 0, none⟩) (Kd.R_far (p := ⟨gb300, 5, none⟩) (Kd.R_far (p := ⟨gb300, 4, none⟩) (Kd.R_far (p := ⟨gb300, 3, none⟩) (Kd.R_far (p := ⟨gb300, 2, none⟩) (Kd.R_far (p := ⟨gb300, 1, none⟩) (Kd.R_far (p := ⟨gb300, 0, none⟩) (Kd.R_types (Kd.R_types (Kd.R_types HO298.out BK300.out (by decide)) BK301.out (by decide)) BK302.out (by decide)) (fun _ hk => hk.1.1.2) (.string t291)) (fun _ hk => hk.1.1.2) (.string t292)) (fun _ hk => hk.1.1.2) (.int .i64 t293)) (fun _ hk => hk.1.1.2) (.string t294)) (fun _ hk => hk.1.1.2) (.int .i64 t295)) (fun _ hk => hk.1.1.2) (.slice Ao99 t296.length co99)) (fun _ hk => hk.1.2) (.string t291)) (fun _ hk => hk.1.2) (.string t292)) (fun _ hk => hk.1.2) (.int .i64 t293)) (fun _ hk => hk.1.2) (.string t294)) (fun _ hk => hk.1.2) (.int .i64 t295)) (fun _ hk => hk.1.2) (.slice Ao99 t296.length co99)) (fun _ hk => hk.2) (.string t291)) (fun _ hk => hk.2) (.string t292)) (fun _ hk => hk.2) (.int .i64 t293)) (fun _ hk => hk.2) (.string t294)) (fun _ hk => hk.2) (.int .i64 t295)) (fun _ hk => hk.2) (.slice Ao99 t296.length co99)) (fun _ h_ => h_.1)) (fun _ h_ => h_.1)) (fun _ h_ => h_.1)))) hg hat); have n2_ := aM (blk_grown (g := gb299) (o := .cells #[.string t291, .string t292, .int .i64 t293, .string t294, .int .i64 t295, .slice Ao99 t296.length co99] 25 (0, 0)) (by (with_reducible repeat (first | refine bN ?_ _ | refine bD ?_ | refine bA ?_ _)); refine blk_far ?_ NB299_302.out _; (with_reducible repeat (first | refine bN ?_ _ | refine bD ?_ | refine bA ?_ _)); refine blk_far ?_ NB299_302.out _; (with_reducible repeat (first | refine bN ?_ _ | refine bD ?_ | refine bA ?_ _)); refine blk_far ?_ NB299_302.out _; (with_reducible repeat (first | refine bN ?_ _ | refine bD ?_ | refine bA ?_ _)); refine blk_far ?_ NB299_302.out _; (with_reducible repeat (first | refine bN ?_ _ | refine bD ?_ | refine bA ?_ _)); refine blk_far ?_ NB299_302.out _; (with_reducible repeat (first | refine bN ?_ _ | refine bD ?_ | refine bA ?_ _)); refine blk_far ?_ NB299_302.out _; (with_reducible repeat (first | refine bN ?_ _ | refine bD ?_ | refine bA ?_ _)); refine blk_far ?_ NB299_301.out _; (with_reducible repeat (first | refine bN ?_ _ | refine bD ?_ | refine bA ?_ _)); refine blk_far ?_ NB299_301.out _; (with_reducible repeat (first | refine bN ?_ _ | refine bD ?_ | refine bA ?_ _)); refine blk_far ?_ NB299_301.out _; (with_reducible repeat (first | refine bN ?_ _ | refine bD ?_ | refine bA ?_ _)); refine blk_far ?_ NB299_301.out _; (with_reducible repeat (first | refine bN ?_ _ | refine bD ?_ | refine bA ?_ _)); refine blk_far ?_ NB299_301.out _; (with_reducible repeat (first | refine bN ?_ _ | refine bD ?_ | refine bA ?_ _)); refine blk_far ?_ NB299_301.out _; (with_reducible repeat (first | refine bN ?_ _ | refine bD ?_ | refine bA ?_ _)); refine blk_far ?_ NB299_300.out _; (with_reducible repeat (first | refine bN ?_ _ | refine bD ?_ | refine bA ?_ _)); refine blk_far ?_ NB299_300.out _; (with_reducible repeat (first | refine bN ?_ _ | refine bD ?_ | refine bA ?_ _)); refine blk_far ?_ NB299_300.out _; (with_reducible repeat (first | refine bN ?_ _ | refine bD ?_ | refine bA ?_ _)); refine blk_far ?_ NB299_300.out _; (with_reducible repeat (first | refine bN ?_ _ | refine bD ?_ | refine bA ?_ _)); refine blk_far ?_ NB299_300.out _; (with_reducible repeat (first | refine bN ?_ _ | refine bD ?_ | refine bA ?_ _)); refine blk_far ?_ NB299_300.out _; (with_reducible repeat (first | refine bN ?_ _ | refine bD ?_ | refine bA ?_ _)); exact BK299.out) hg (by simp [Value.ownBlock])); have n3_ := aM (blk_grown (g := gb300) (o := .cells #[.string t291, .string t292, .int .i64 t293, .string t294, .int .i64 t295, .slice Ao99 t296.length co99] 25 (0, 0)) (by (with_reducible repeat (first | refine bN ?_ _ | refine bD ?_ | refine bA ?_ _)); refine blk_far ?_ NB300_302.out _; (with_reducible repeat (first | refine bN ?_ _ | refine bD ?_ | refine bA ?_ _)); refine blk_far ?_ NB300_302.out _; (with_reducible repeat (first | refine bN ?_ _ | refine bD ?_ | refine bA ?_ _)); refine blk_far ?_ NB300_302.out _; (with_reducible repeat (first | refine bN ?_ _ | refine bD ?_ | refine bA ?_ _)); refine blk_far ?_ NB300_302.out _; (with_reducible repeat (first | refine bN ?_ _ | refine bD ?_ | refine bA ?_ _)); refine blk_far ?_ NB300_302.out _; (with_reducible repeat (first | refine bN ?_ _ | refine bD ?_ | refine bA ?_ _)); refine blk_far ?_ NB300_302.out _; (with_reducible repeat (first | refine bN ?_ _ | refine bD ?_ | refine bA ?_ _)); refine blk_far ?_ NB300_301.out _; (with_reducible repeat (first | refine bN ?_ _ | refine bD ?_ | refine bA ?_ _)); refine blk_far ?_ NB300_301.out _; (with_reducible repeat (first | refine bN ?_ _ | refine bD ?_ | refine bA ?_ _)); refine blk_far ?_ NB300_301.out _; (with_reducible repeat (first | refine bN ?_ _ | refine bD ?_ | refine bA ?_ _)); refine blk_far ?_ NB300_301.out _; (with_reducible repeat (first | refine bN ?_ _ | refine bD ?_ | refine bA ?_ _)); refine blk_far ?_ NB300_301.out _; (with_reducible repeat (first | refine bN ?_ _ | refine bD ?_ | refine bA ?_ _)); refine blk_far ?_ NB300_301.out _; (with_reducible repeat (first | refine bN ?_ _ | refine bD ?_ | refine bA ?_ _)); refine blk_put (cs := #[.string t291, .string t292, .int .i64 t293, .string t294, .int .i64 t295, .slice none 0 0]) ?_ 5 _ rfl; (with_reducible repeat (first | refine bN ?_ _ | refine bD ?_ | refine bA ?_ _)); refine blk_put (cs := #[.string t291, .string t292, .int .i64 t293, .string t294, .int .i64 0, .slice none 0 0]) ?_ 4 _ rfl; (with_reducible repeat (first | refine bN ?_ _ | refine bD ?_ | refine bA ?_ _)); refine blk_put (cs := #[.string t291, .string t292, .int .i64 t293, .string (⟨#[]⟩ : ByteArray), .int .i64 0, .slice none 0 0]) ?_ 3 _ rfl; (with_reducible repeat (first | refine bN ?_ _ | refine bD ?_ | refine bA ?_ _)); refine blk_put (cs := #[.string t291, .string t292, .int .i64 0, .string (⟨#[]⟩ : ByteArray), .int .i64 0, .slice none 0 0]) ?_ 2 _ rfl; (with_reducible repeat (first | refine bN ?_ _ | refine bD ?_ | refine bA ?_ _)); refine blk_put (cs := #[.string t291, .string (⟨#[]⟩ : ByteArray), .int .i64 0, .string (⟨#[]⟩ : ByteArray), .int .i64 0, .slice none 0 0]) ?_ 1 _ rfl; (with_reducible repeat (first | refine bN ?_ _ | refine bD ?_ | refine bA ?_ _)); refine blk_put (cs := #[.string (⟨#[]⟩ : ByteArray), .string (⟨#[]⟩ : ByteArray), .int .i64 0, .string (⟨#[]⟩ : ByteArray), .int .i64 0, .slice none 0 0]) ?_ 0 _ rfl; (with_reducible repeat (first | refine bN ?_ _ | refine bD ?_ | refine bA ?_ _)); exact BK300.out) hg (by simp [Value.ownBlock])); have n4_ := aM (blk_grown (g := gb301) (o := .cells #[.string t291, .string t292, .int .i64 t293, .string t294, .int .i64 t295, .slice Ao99 t296.length co99] 25 (0, 0)) (by (with_reducible repeat (first | refine bN ?_ _ | refine bD ?_ | refine bA ?_ _)); refine blk_far ?_ NB301_302.out _; (with_reducible repeat (first | refine bN ?_ _ | refine bD ?_ | refine bA ?_ _)); refine blk_far ?_ NB301_302.out _; (with_reducible repeat (first | refine bN ?_ _ | refine bD ?_ | refine bA ?_ _)); refine blk_far ?_ NB301_302.out _; (with_reducible repeat (first | refine bN ?_ _ | refine bD ?_ | refine bA ?_ _)); refine blk_far ?_ NB301_302.out _; (with_reducible repeat (first | refine bN ?_ _ | refine bD ?_ | refine bA ?_ _)); refine blk_far ?_ NB301_302.out _; (with_reducible repeat (first | refine bN ?_ _ | refine bD ?_ | refine bA ?_ _)); refine blk_far ?_ NB301_302.out _; (with_reducible repeat (first | refine bN ?_ _ | refine bD ?_ | refine bA ?_ _)); refine blk_put (cs := #[.string t291, .string t292, .int .i64 t293, .string t294, .int .i64 t295, .slice none 0 0]) ?_ 5 _ rfl; (with_reducible repeat (first | refine bN ?_ _ | refine bD ?_ | refine bA ?_ _)); refine blk_put (cs := #[.string t291, .string t292, .int .i64 t293, .string t294, .int .i64 0, .slice none 0 0]) ?_ 4 _ rfl; (with_reducible repeat (first | refine bN ?_ _ | refine bD ?_ | refine bA ?_ _)); refine blk_put (cs := #[.string t291, .string t292, .int .i64 t293, .string (⟨#[]⟩ : ByteArray), .int .i64 0, .slice none 0 0]) ?_ 3 _ rfl; (with_reducible repeat (first | refine bN ?_ _ | refine bD ?_ | refine bA ?_ _)); refine blk_put (cs := #[.string t291, .string t292, .int .i64 0, .string (⟨#[]⟩ : ByteArray), .int .i64 0, .slice none 0 0]) ?_ 2 _ rfl; (with_reducible repeat (first | refine bN ?_ _ | refine bD ?_ | refine bA ?_ _)); refine blk_put (cs := #[.string t291, .string (⟨#[]⟩ : ByteArray), .int .i64 0, .string (⟨#[]⟩ : ByteArray), .int .i64 0, .slice none 0 0]) ?_ 1 _ rfl; (with_reducible repeat (first | refine bN ?_ _ | refine bD ?_ | refine bA ?_ _)); refine blk_put (cs := #[.string (⟨#[]⟩ : ByteArray), .string (⟨#[]⟩ : ByteArray), .int .i64 0, .string (⟨#[]⟩ : ByteArray), .int .i64 0, .slice none 0 0]) ?_ 0 _ rfl; (with_reducible repeat (first | refine bN ?_ _ | refine bD ?_ | refine bA ?_ _)); refine blk_far ?_ NB301_300.out _; (with_reducible repeat (first | refine bN ?_ _ | refine bD ?_ | refine bA ?_ _)); refine blk_far ?_ NB301_300.out _; (with_reducible repeat (first | refine bN ?_ _ | refine bD ?_ | refine bA ?_ _)); refine blk_far ?_ NB301_300.out _; (with_reducible repeat (first | refine bN ?_ _ | refine bD ?_ | refine bA ?_ _)); refine blk_far ?_ NB301_300.out _; (with_reducible repeat (first | refine bN ?_ _ | refine bD ?_ | refine bA ?_ _)); refine blk_far ?_ NB301_300.out _; (with_reducible repeat (first | refine bN ?_ _ | refine bD ?_ | refine bA ?_ _)); refine blk_far ?_ NB301_300.out _; (with_reducible repeat (first | refine bN ?_ _ | refine bD ?_ | refine bA ?_ _)); exact BK301.out) hg (by simp [Value.ownBlock])); have n5_ := aM (blk_grown (g := gb302) (o := .cells #[.string t291, .string t292, .int .i64 t293, .string t294, .int .i64 t295, .slice Ao99 t296.length co99] 25 (0, 0)) (by (with_reducible repeat (first | refine bN ?_ _ | refine bD ?_ | refine bA ?_ _)); refine blk_put (cs := #[.string t291, .string t292, .int .i64 t293, .string t294, .int .i64 t295, .slice none 0 0]) ?_ 5 _ rfl; (with_reducible repeat (first | refine bN ?_ _ | refine bD ?_ | refine bA ?_ _)); refine blk_put (cs := #[.string t291, .string t292, .int .i64 t293, .string t294, .int .i64 0, .slice none 0 0]) ?_ 4 _ rfl; (with_reducible repeat (first | refine bN ?_ _ | refine bD ?_ | refine bA ?_ _)); refine blk_put (cs := #[.string t291, .string t292, .int .i64 t293, .string (⟨#[]⟩ : ByteArray), .int .i64 0, .slice none 0 0]) ?_ 3 _ rfl; (with_reducible repeat (first | refine bN ?_ _ | refine bD ?_ | refine bA ?_ _)); refine blk_put (cs := #[.string t291, .string t292, .int .i64 0, .string (⟨#[]⟩ : ByteArray), .int .i64 0, .slice none 0 0]) ?_ 2 _ rfl; (with_reducible repeat (first | refine bN ?_ _ | refine bD ?_ | refine bA ?_ _)); refine blk_put (cs := #[.string t291, .string (⟨#[]⟩ : ByteArray), .int .i64 0, .string (⟨#[]⟩ : ByteArray), .int .i64 0, .slice none 0 0]) ?_ 1 _ rfl; (with_reducible repeat (first | refine bN ?_ _ | refine bD ?_ | refine bA ?_ _)); refine blk_put (cs := #[.string (⟨#[]⟩ : ByteArray), .string (⟨#[]⟩ : ByteArray), .int .i64 0, .string (⟨#[]⟩ : ByteArray), .int .i64 0, .slice none 0 0]) ?_ 0 _ rfl; (with_reducible repeat (first | refine bN ?_ _ | refine bD ?_ | refine bA ?_ _)); refine blk_far ?_ NB302_301.out _; (with_reducible repeat (first | refine bN ?_ _ | refine bD ?_ | refine bA ?_ _)); refine blk_far ?_ NB302_301.out _; (with_reducible repeat (first | refine bN ?_ _ | refine bD ?_ | refine bA ?_ _)); refine blk_far ?_ NB302_301.out _; (with_reducible repeat (first | refine bN ?_ _ | refine bD ?_ | refine bA ?_ _)); refine blk_far ?_ NB302_301.out _; (with_reducible repeat (first | refine bN ?_ _ | refine bD ?_ | refine bA ?_ _)); refine blk_far ?_ NB302_301.out _; (with_reducible repeat (first | refine bN ?_ _ | refine bD ?_ | refine bA ?_ _)); refine blk_far ?_ NB302_301.out _; (with_reducible repeat (first | refine bN ?_ _ | refine bD ?_ | refine bA ?_ _)); refine blk_far ?_ NB302_300.out _; (with_reducible repeat (first | refine bN ?_ _ | refine bD ?_ | refine bA ?_ _)); refine blk_far ?_ NB302_300.out _; (with_reducible repeat (first | refine bN ?_ _ | refine bD ?_ | refine bA ?_ _)); refine blk_far ?_ NB302_300.out _; (with_reducible repeat (first | refine bN ?_ _ | refine bD ?_ | refine bA ?_ _)); refine blk_far ?_ NB302_300.out _; (with_reducible repeat (first | refine bN ?_ _ | refine bD ?_ | refine bA ?_ _)); refine blk_far ?_ NB302_300.out _; (with_reducible repeat (first | refine bN ?_ _ | refine bD ?_ | refine bA ?_ _)); refine blk_far ?_ NB302_300.out _; (with_reducible repeat (first | refine bN ?_ _ | refine bD ?_ | refine bA ?_ _)); exact BK302.out) hg (by simp [Value.ownBlock])); have n6_ := aM (hb); have n7_ := aM (ho); clear HO288; clear HO298; clear BK299; clear BK300; clear BK301; clear BK302; clear HB; have HO288 := n0_; have HO298 := n1_; have BK299 := n2_; have BK300 := n3_; have BK301 := n4_; have BK302 := n5_; have HB := n6_; have HO305 := n7_; clear n0_ n1_ n2_ n3_ n4_ n5_ n6_ n7_; clear ho hb hg hat) | ((with_reducible refine gate_builtin (b := .append) (xs := #[.tmp 41, .tmp 47]) rfl ?_); at_builtin; refine Kd.R_append k32 (w0 := w) w.heap.size rfl (.tmp 41) (.tmp 47) 23 32 (.agg #[(.string ⟨#[]⟩), (.string ⟨#[]⟩)]) 32 rfl Tryd.underlying23 info32 rfl (by decide) (by omega) v304 y303 (⟨(⟨#[67, 111, 110, 110, 101, 99, 116, 105, 111, 110]⟩ : ByteArray), ((rdOf ByteArray.empty y286 (ji7)) ++ (⟨#[44]⟩ : ByteArray)) ++ (rdOf ByteArray.empty y286 (ji10))⟩ : S32) [.string (⟨#[67, 111, 110, 110, 101, 99, 116, 105, 111, 110]⟩ : ByteArray), .string (((rdOf ByteArray.empty y286 (ji7)) ++ (⟨#[44]⟩ : ByteArray)) ++ (rdOf ByteArray.empty y286 (ji10)))] (fun k_ => some k_ ≠ (.slice Ao99 t296.length co99 : Value).ownBlock) (fun _ => False) rfl rfl ?aP (fun _ hk => hk.elim) ?aF ?aO ?aB ?aS ?aL ?_; (case aP => exact k32_mkM _ _ _ (⟨(⟨#[67, 111, 110, 110, 101, 99, 116, 105, 111, 110]⟩ : ByteArray), ((rdOf ByteArray.empty y286 (ji7)) ++ (⟨#[44]⟩ : ByteArray)) ++ (rdOf ByteArray.empty y286 (ji10))⟩ : S32)); (case aB => exact (by repeat (first | (with_reducible first | exact HB.out | apply lA | apply lN | apply lD | refine below_set ?_ GE299.out | refine below_set ?_ GE300.out | refine below_set ?_ GE301.out | refine below_set ?_ GE302.out) | exact HB.out))); (case aF => exact (fun k_ hk => Kd.fresh' (Kd.R_lt (by (with_reducible repeat (first | apply rA | apply rN | apply rD)); exact HO298.out)) k_ hk)); (case aO => exact (by (with_reducible repeat (first | apply rA | apply rN | apply rD)); exact HO305.out)); (case aS => exact (below_size (by repeat (first | (with_reducible first | exact HB.out | apply lA | apply lN | apply lD | refine below_set ?_ GE299.out | refine below_set ?_ GE300.out | refine below_set ?_ GE301.out | refine below_set ?_ GE302.out) | exact HB.out)))); (case aL => have := LMc17.out; omega); intro v307 w129 ho hb hg hat; rw [← Ny306.out] at ho; have n0_ := aM (Kd.R_over' (by (with_reducible repeat (first | apply rA | apply rN | apply rD)); exact HO288.out) (Kd.R_typed (by (with_reducible repeat (first | apply rA | apply rN | apply rD)); exact HO305.out)) (by decide) hg); have n1_ := aM (Kd.R_after (ok := (fun _ => True)) (by (with_reducible repeat (first | apply rA | apply rN | apply rD)); exact HO298.out) hg hat); have n2_ := aM (blk_grown (g := gb299) (o := .cells #[.string t291, .string t292, .int .i64 t293, .string t294, .int .i64 t295, .slice Ao99 t296.length co99] 25 (0, 0)) (by (with_reducible repeat (first | refine bN ?_ _ | refine bD ?_ | refine bA ?_ _)); exact BK299.out) hg (Kd.R_ne HO305.out BK299.out (by decide))); have n3_ := aM (blk_grown (g := gb300) (o := .cells #[.string t291, .string t292, .int .i64 t293, .string t294, .int .i64 t295, .slice Ao99 t296.length co99] 25 (0, 0)) (by (with_reducible repeat (first | refine bN ?_ _ | refine bD ?_ | refine bA ?_ _)); exact BK300.out) hg (Kd.R_ne HO305.out BK300.out (by decide))); have n4_ := aM (blk_grown (g := gb301) (o := .cells #[.string t291, .string t292, .int .i64 t293, .string t294, .int .i64 t295, .slice Ao99 t296.length co99] 25 (0, 0)) (by (with_reducible repeat (first | refine bN ?_ _ | refine bD ?_ | refine bA ?_ _)); exact BK301.out) hg (Kd.R_ne HO305.out BK301.out (by decide))); have n5_ := aM (blk_grown (g := gb302) (o := .cells #[.string t291, .string t292, .int .i64 t293, .string t294, .int .i64 t295, .slice Ao99 t296.length co99] 25 (0, 0)) (by (with_reducible repeat (first | refine bN ?_ _ | refine bD ?_ | refine bA ?_ _)); exact BK302.out) hg (Kd.R_ne HO305.out BK302.out (by decide))); have n6_ := aM (hb); have n7_ := aM (ho); clear HO288; clear HO298; clear BK299; clear BK300; clear BK301; clear BK302; clear HB; clear HO305; have HO288 := n0_; have HO298 := n1_; have BK299 := n2_; have BK300 := n3_; have BK301 := n4_; have BK302 := n5_; have HB := n6_; have HO308 := n7_; clear n0_ n1_ n2_ n3_ n4_ n5_ n6_ n7_; clear ho hb hg hat; obtain ⟨Ao130, co130, eo130⟩ := Kd.R_slice HO308.out; subst eo130; have hnb131 := NB300_301.out; have hnc131 := NB301_300.out; have hnb132 := NB300_302.out; have hnc132 := NB302_300.out; have hcz133_0 : w129.cell? ⟨gb300, 0, none⟩ = some (.string t291) := (blk_cell BK300.out 0).trans rfl; have hcz133_1 : w129.cell? ⟨gb300, 1, none⟩ = some (.string t292) := (blk_cell BK300.out 1).trans rfl; have hcz133_2 : w129.cell? ⟨gb300, 2, none⟩ = some (.int .i64 t293) := (blk_cell BK300.out 2).trans rfl; have hcz133_3 : w129.cell? ⟨gb300, 3, none⟩ = some (.string t294) := (blk_cell BK300.out 3).trans rfl; have hcz133_4 : w129.cell? ⟨gb300, 4, none⟩ = some (.int .i64 t295) := (blk_cell BK300.out 4).trans rfl; have hcz133_5 : w129.cell? ⟨gb300, 5, none⟩ = some (.slice Ao99 t296.length co99) := (blk_cell BK300.out 5).trans rfl; have hfz133_0 := blk_frozen BK300.out 0; have hfz133_1 := blk_frozen BK300.out 1; have hfz133_2 := blk_frozen BK300.out 2; have hfz133_3 := blk_frozen BK300.out 3; have hfz133_4 := blk_frozen BK300.out 4; have hfz133_5 := blk_frozen BK300.out 5; have hcz134_0 : w129.cell? ⟨gb299, 0, none⟩ = some (.string t291) := (blk_cell BK299.out 0).trans rfl; have hcz134_1 : w129.cell? ⟨gb299, 1, none⟩ = some (.string t292) := (blk_cell BK299.out 1).trans rfl; have hcz134_2 : w129.cell? ⟨gb299, 2, none⟩ = some (.int .i64 t293) := (blk_cell BK299.out 2).trans rfl; have hcz134_3 : w129.cell? ⟨gb299, 3, none⟩ = some (.string t294) := (blk_cell BK299.out 3).trans rfl; have hcz134_4 : w129.cell? ⟨gb299, 4, none⟩ = some (.int .i64 t295) := (blk_cell BK299.out 4).trans rfl; have hcz134_5 : w129.cell? ⟨gb299, 5, none⟩ = some (.slice Ao99 t296.length co99) := (blk_cell BK299.out 5).trans rfl; have hfz134_0 := blk_frozen BK299.out 0; have hfz134_1 := blk_frozen BK299.out 1; have hfz134_2 := blk_frozen BK299.out 2; have hfz134_3 := blk_frozen BK299.out 3; have hfz134_4 := blk_frozen BK299.out 4; have hfz134_5 := blk_frozen BK299.out 5) | ((with_reducible refine gate_builtin (b := .append) (xs := #[.const (.slice none 0 0), .tmp 51]) rfl ?_); at_builtin; refine Kd.R_append_rows k32 (w0 := w) w.heap.size rfl (.const (.slice none 0 0)) (.tmp 51) 23 32 (.agg #[(.string ⟨#[]⟩), (.string ⟨#[]⟩)]) 32 rfl Tryd.underlying23 info32 rfl (by decide) (by omega) (.slice none 0 0) ([] : List (S32)) t296 _ _ _ (fun k_ => some k_ ≠ (.slice Ao99 t296.length co99 : Value).ownBlock ∧ some k_ ≠ (.slice Ao130 y306.length co130 : Value).ownBlock) (fun _ => False) rfl rfl ?aO ?aR (fun _ _ h => h) (fun _ h => h.elim) ?aF ?aB ?aS ?aL ?_; (case aR => refine (Kd.R_reads' (e := 32) (base := w.heap.size) (ok := fun k_ => (True ∧ some k_ ≠ (.slice Ao130 y306.length co130 : Value).ownBlock)) (n := t296.length) (c := co99) ?_).2.2; exact (by (with_reducible repeat (first | apply rA | apply rN | apply rD)); exact (Kd.R_mono (Kd.R_far (p := ⟨gb300, 5, none⟩) (Kd.R_types HO298.out BK300.out (by decide)) (fun _ hk => hk.2) (.slice Ao130 y306.length co130)) (fun _ h_ => h_.1)))); (case aB => exact (by repeat (first | (with_reducible first | exact HB.out | apply lA | apply lN | apply lD | refine below_set ?_ GE299.out | refine below_set ?_ GE300.out | refine below_set ?_ GE301.out | refine below_set ?_ GE302.out) | exact HB.out))); (case aF => exact (fun k_ hk => ⟨Kd.fresh' (Kd.R_lt (by (with_reducible repeat (first | apply rA | apply rN | apply rD)); exact (Kd.R_mono (Kd.R_far (p := ⟨gb300, 5, none⟩) (Kd.R_types HO298.out BK300.out (by decide)) (fun _ hk => hk.2) (.slice Ao130 y306.length co130)) (fun _ h_ => h_.1)))) k_ hk, Kd.fresh' (Kd.R_lt (by (with_reducible repeat (first | apply rA | apply rN | apply rD)); exact (Kd.R_mono (Kd.R_far (p := ⟨gb300, 5, none⟩) (Kd.R_types HO308.out BK300.out (by decide)) (fun _ hk => hk.2) (.slice Ao130 y306.length co130)) (fun _ h_ => h_.1)))) k_ hk⟩)); (case aO => exact ((Kd.R_nil _ _ _ _ (fun k_ => some k_ ≠ (.slice Ao99 t296.length co99 : Value).ownBlock ∧ some k_ ≠ (.slice Ao130 y306.length co130 : Value).ownBlock)))); (case aS => exact (below_size (by repeat (first | (with_reducible first | exact HB.out | apply lA | apply lN | apply lD | refine below_set ?_ GE299.out | refine below_set ?_ GE300.out | refine below_set ?_ GE301.out | refine below_set ?_ GE302.out) | exact HB.out)))); (case aL => have := LMc14.out; omega); intro v310 w135 ho hb hg hat; rw [← Ny309.out] at ho; have n0_ := aM (Kd.R_grown (by (with_reducible repeat (first | apply rA | apply rN | apply rD)); exact (Kd.R_mono (Kd.R_far (p := ⟨gb300, 5, none⟩) (Kd.R_types HO288.out BK300.out (by decide)) (fun _ hk => hk.2) (.slice Ao130 y306.length co130)) (fun _ h_ => h_.1))) hg (fun _ _ => by simp [Value.ownBlock])); have n1_ := aM (Kd.R_after (Kd.R_apart_nil (by (with_reducible repeat (first | apply rA | apply rN | apply rD)); exact (Kd.R_mono (Kd.R_far (p := ⟨gb300, 5, none⟩) (Kd.R_types HO298.out BK300.out (by decide)) (fun _ hk => hk.2) (.slice Ao130 y306.length co130)) (fun _ h_ => h_.1)))) hg hat); have n2_ := aM (blk_grown (g := gb299) (o := .cells #[.string t291, .string t292, .int .i64 t293, .string t294, .int .i64 t295, .slice Ao99 t296.length co99] 25 (0, 0)) (by (with_reducible repeat (first | refine bN ?_ _ | refine bD ?_ | refine bA ?_ _)); refine blk_far ?_ NB299_300.out _; (with_reducible repeat (first | refine bN ?_ _ | refine bD ?_ | refine bA ?_ _)); exact BK299.out) hg (by simp [Value.ownBlock])); have n3_ := aM (blk_grown (g := gb300) (o := .cells #[.string t291, .string t292, .int .i64 t293, .string t294, .int .i64 t295, .slice Ao130 y306.length co130] 25 (0, 0)) (by (with_reducible repeat (first | refine bN ?_ _ | refine bD ?_ | refine bA ?_ _)); refine blk_put (cs := #[.string t291, .string t292, .int .i64 t293, .string t294, .int .i64 t295, .slice Ao99 t296.length co99]) ?_ 5 _ rfl; (with_reducible repeat (first | refine bN ?_ _ | refine bD ?_ | refine bA ?_ _)); exact BK300.out) hg (by simp [Value.ownBlock])); have n4_ := aM (blk_grown (g := gb301) (o := .cells #[.string t291, .string t292, .int .i64 t293, .string t294, .int .i64 t295, .slice Ao99 t296.length co99] 25 (0, 0)) (by (with_reducible repeat (first | refine bN ?_ _ | refine bD ?_ | refine bA ?_ _)); refine blk_far ?_ NB301_300.out _; (with_reducible repeat (first | refine bN ?_ _ | refine bD ?_ | refine bA ?_ _)); exact BK301.out) hg (by simp [Value.ownBlock])); have n5_ := aM (blk_grown (g := gb302) (o := .cells #[.string t291, .string t292, .int .i64 t293, .string t294, .int .i64 t295, .slice Ao99 t296.length co99] 25 (0, 0)) (by (with_reducible repeat (first | refine bN ?_ _ | refine bD ?_ | refine bA ?_ _)); refine blk_far ?_ NB302_300.out _; (with_reducible repeat (first | refine bN ?_ _ | refine bD ?_ | refine bA ?_ _)); exact BK302.out) hg (by simp [Value.ownBlock])); have n6_ := aM (Kd.R_after (Kd.R_apart_nil (by (with_reducible repeat (first | apply rA | apply rN | apply rD)); exact (Kd.R_mono (Kd.R_far (p := ⟨gb300, 5, none⟩) (Kd.R_types HO308.out BK300.out (by decide)) (fun _ hk => hk.2) (.slice Ao130 y306.length co130)) (fun _ h_ => h_.1)))) hg hat); have n7_ := aM (hb); have n8_ := aM (ho); clear HO288; clear HO298; clear BK299; clear BK300; clear BK301; clear BK302; clear HO308; clear HB; have HO288 := n0_; have HO298 := n1_; have BK299 := n2_; have BK300 := n3_; have BK301 := n4_; have BK302 := n5_; have HO308 := n6_; have HB := n7_; have HO311 := n8_; clear n0_ n1_ n2_ n3_ n4_ n5_ n6_ n7_ n8_; clear ho hb hg hat) | ((with_reducible refine gate_callee (f := 14) rfl ?_); refine goesL_ (some 54) rfl rfl Tryd.func14 (by kernel_rfl) rfl #[.string (rdOf ByteArray.empty y286 (ji10))] rfl (by (try simp only [List.map_toArray, List.map_cons, List.map_nil]); first | done | (simp only [hji10]; rfl) | rfl | (simp only [List.length_drop, List.length_take]; rfl)) ?_; (with_reducible refine (lockageref05_Lower.calls k (rdOf ByteArray.empty y286 (ji10)) t312 _ A18.out).mono ?_); rintro e w136 ⟨rfl, hb⟩; refine ⟨_, rfl, ?_⟩; have n0_ := aM (Kd.R_below (by (with_reducible repeat (first | apply rA | apply rN | apply rD)); exact HO288.out) hb); have n1_ := aM (Kd.R_below (by (with_reducible repeat (first | apply rA | apply rN | apply rD)); exact HO298.out) hb); have n2_ := aM (Kd.R_below (by (with_reducible repeat (first | apply rA | apply rN | apply rD)); exact HO308.out) hb); have n3_ := aM (Kd.R_below (by (with_reducible repeat (first | apply rA | apply rN | apply rD)); exact HO311.out) hb); have n4_ := aM (blk_below (g := gb299) (o := .cells #[.string t291, .string t292, .int .i64 t293, .string t294, .int .i64 t295, .slice Ao99 t296.length co99] 25 (0, 0)) (by (with_reducible repeat (first | refine bN ?_ _ | refine bD ?_ | refine bA ?_ _)); exact BK299.out) hb); have n5_ := aM (blk_below (g := gb300) (o := .cells #[.string t291, .string t292, .int .i64 t293, .string t294, .int .i64 t295, .slice Ao130 y306.length co130] 25 (0, 0)) (by (with_reducible repeat (first | refine bN ?_ _ | refine bD ?_ | refine bA ?_ _)); exact BK300.out) hb); have n6_ := aM (blk_below (g := gb301) (o := .cells #[.string t291, .string t292, .int .i64 t293, .string t294, .int .i64 t295, .slice Ao99 t296.length co99] 25 (0, 0)) (by (with_reducible repeat (first | refine bN ?_ _ | refine bD ?_ | refine bA ?_ _)); exact BK301.out) hb); have n7_ := aM (blk_below (g := gb302) (o := .cells #[.string t291, .string t292, .int .i64 t293, .string t294, .int .i64 t295, .slice Ao99 t296.length co99] 25 (0, 0)) (by (with_reducible repeat (first | refine bN ?_ _ | refine bD ?_ | refine bA ?_ _)); exact BK302.out) hb); have n8_ := aM (below_step (by repeat (first | (with_reducible first | exact HB.out | apply lA | apply lN | apply lD | refine below_set ?_ GE299.out | refine below_set ?_ GE300.out | refine below_set ?_ GE301.out | refine below_set ?_ GE302.out) | exact HB.out)) hb); clear HO288; clear HO298; clear HO308; clear HO311; clear BK299; clear BK300; clear BK301; clear BK302; clear HB; have HO288 := n0_; have HO298 := n1_; have HO308 := n2_; have HO311 := n3_; have BK299 := n4_; have BK300 := n5_; have BK301 := n6_; have BK302 := n7_; have HB := n8_; clear n0_ n1_ n2_ n3_ n4_ n5_ n6_ n7_ n8_; (try clear hb); (try clear hb2); (try clear hk); (try clear hi)) | ((with_reducible refine gate_dst (N := 58) rfl ?_); refine Kd.R_lit k32 _ 32 ?hg (N := 58) ?hd (xs := ([(⟨(⟨#[99, 111, 110, 110, 101, 99, 116, 105, 111, 110]⟩ : ByteArray), t312⟩ : S32), (⟨(⟨#[67, 79, 78, 78, 69, 67, 84, 73, 79, 78]⟩ : ByteArray), rdOf ByteArray.empty y286 (ji7)⟩ : S32)] : List (S32))) (inner := [.string (⟨#[99, 111, 110, 110, 101, 99, 116, 105, 111, 110]⟩ : ByteArray), .string t312, .string (⟨#[67, 79, 78, 78, 69, 67, 84, 73, 79, 78]⟩ : ByteArray), .string (rdOf ByteArray.empty y286 (ji7))]) (ok := fun _ => True) (okp := fun _ => True) ?hr ?hp (fun _ hk => hk) trivial (Below.refl _ _) (Nat.le_refl _) (by simp) ?_; (case hd => rfl); (case hg => rfl); (case hr => first | (go_simp; done) | (go_simp; rfl)); (case hp => exact (Reps.c2 (show Kd.M k32 _ _ _ (⟨(⟨#[99, 111, 110, 110, 101, 99, 116, 105, 111, 110]⟩ : ByteArray), t312⟩ : S32) [.string (⟨#[99, 111, 110, 110, 101, 99, 116, 105, 111, 110]⟩ : ByteArray), .string t312] from (k32_mkM _ _ _ (⟨(⟨#[99, 111, 110, 110, 101, 99, 116, 105, 111, 110]⟩ : ByteArray), t312⟩ : S32) )) (Reps.c2 (show Kd.M k32 _ _ _ (⟨(⟨#[67, 79, 78, 78, 69, 67, 84, 73, 79, 78]⟩ : ByteArray), rdOf ByteArray.empty y286 (ji7)⟩ : S32) [.string (⟨#[67, 79, 78, 78, 69, 67, 84, 73, 79, 78]⟩ : ByteArray), .string (rdOf ByteArray.empty y286 (ji7))] from (k32_mkM _ _ _ (⟨(⟨#[67, 79, 78, 78, 69, 67, 84, 73, 79, 78]⟩ : ByteArray), rdOf ByteArray.empty y286 (ji7)⟩ : S32) )) (Reps.none _ _)))); intro v314 w137 ho138 hb hg_ hnew_; clear hg_ hnew_; (first | rw [← Ny313.out] at ho138 | (simp only [Int.reduceToNat] at ho138; rw [← Ny313.out] at ho138)); have n0_ := aM (Kd.R_below (by (with_reducible repeat (first | apply rA | apply rN | apply rD)); exact HO288.out) hb); have n1_ := aM (Kd.R_elder' (by (with_reducible repeat (first | apply rA | apply rN | apply rD)); exact HO298.out) (Kd.R_base ho138) hb); have n2_ := aM (Kd.R_elder' (by (with_reducible repeat (first | apply rA | apply rN | apply rD)); exact HO308.out) (Kd.R_base ho138) hb); have n3_ := aM (Kd.R_elder' (by (with_reducible repeat (first | apply rA | apply rN | apply rD)); exact HO311.out) (Kd.R_base ho138) hb); have n4_ := aM (Kd.R_lower (Kd.R_new' (Kd.R_new' (Kd.R_new' ho138 (Kd.R_lt (by (with_reducible repeat (first | apply rA | apply rN | apply rD)); exact HO298.out))) (Kd.R_lt (by (with_reducible repeat (first | apply rA | apply rN | apply rD)); exact HO308.out))) (Kd.R_lt (by (with_reducible repeat (first | apply rA | apply rN | apply rD)); exact HO311.out))) (below_size (by repeat (first | (with_reducible first | exact HB.out | apply lA | apply lN | apply lD | refine below_set ?_ GE299.out | refine below_set ?_ GE300.out | refine below_set ?_ GE301.out | refine below_set ?_ GE302.out) | exact HB.out)))); have n5_ := aM (blk_below (g := gb299) (o := .cells #[.string t291, .string t292, .int .i64 t293, .string t294, .int .i64 t295, .slice Ao99 t296.length co99] 25 (0, 0)) (by (with_reducible repeat (first | refine bN ?_ _ | refine bD ?_ | refine bA ?_ _)); exact BK299.out) hb); have n6_ := aM (blk_below (g := gb300) (o := .cells #[.string t291, .string t292, .int .i64 t293, .string t294, .int .i64 t295, .slice Ao130 y306.length co130] 25 (0, 0)) (by (with_reducible repeat (first | refine bN ?_ _ | refine bD ?_ | refine bA ?_ _)); exact BK300.out) hb); have n7_ := aM (blk_below (g := gb301) (o := .cells #[.string t291, .string t292, .int .i64 t293, .string t294, .int .i64 t295, .slice Ao99 t296.length co99] 25 (0, 0)) (by (with_reducible repeat (first | refine bN ?_ _ | refine bD ?_ | refine bA ?_ _)); exact BK301.out) hb); have n8_ := aM (blk_below (g := gb302) (o := .cells #[.string t291, .string t292, .int .i64 t293, .string t294, .int .i64 t295, .slice Ao99 t296.length co99] 25 (0, 0)) (by (with_reducible repeat (first | refine bN ?_ _ | refine bD ?_ | refine bA ?_ _)); exact BK302.out) hb); have n9_ := aM (below_step (by repeat (first | (with_reducible first | exact HB.out | apply lA | apply lN | apply lD | refine below_set ?_ GE299.out | refine below_set ?_ GE300.out | refine below_set ?_ GE301.out | refine below_set ?_ GE302.out) | exact HB.out)) hb); clear HO288; clear HO298; clear HO308; clear HO311; clear BK299; clear BK300; clear BK301; clear BK302; clear HB; have HO288 := n0_; have HO298 := n1_; have HO308 := n2_; have HO311 := n3_; have HO315 := n4_; have BK299 := n5_; have BK300 := n6_; have BK301 := n7_; have BK302 := n8_; have HB := n9_; clear n0_ n1_ n2_ n3_ n4_ n5_ n6_ n7_ n8_ n9_; clear hb ho138; obtain ⟨Ao140, co140, eo140⟩ := Kd.R_slice HO315.out; subst eo140) | ((with_reducible refine gate_builtin (b := .append) (xs := #[.tmp 52, .tmp 58]) rfl ?_); at_builtin; refine Kd.R_append_rows k32 (w0 := w) w.heap.size rfl (.tmp 52) (.tmp 58) 23 32 (.agg #[(.string ⟨#[]⟩), (.string ⟨#[]⟩)]) 32 rfl Tryd.underlying23 info32 rfl (by decide) (by omega) v310 y309 y313 _ _ _ (fun k_ => some k_ ≠ (.slice Ao99 t296.length co99 : Value).ownBlock ∧ some k_ ≠ (.slice Ao130 y306.length co130 : Value).ownBlock ∧ some k_ ≠ (.slice Ao140 y313.length co140 : Value).ownBlock) (fun _ => False) rfl rfl ?aO ?aR (fun _ _ h => h) (fun _ h => h.elim) ?aF ?aB ?aS ?aL ?_; (case aR => repeat (first | exact (Kd.R_reads' HO315.out).2.2 | (with_reducible refine Kd.C_alloc ?_ _) | (with_reducible refine Kd.C_drewN ?_ _) | (with_reducible refine Kd.C_drew ?_))); (case aB => exact (by repeat (first | (with_reducible first | exact HB.out | apply lA | apply lN | apply lD | refine below_set ?_ GE299.out | refine below_set ?_ GE300.out | refine below_set ?_ GE301.out | refine below_set ?_ GE302.out) | exact HB.out))); (case aF => exact (fun k_ hk => ⟨Kd.fresh' (Kd.R_lt (by (with_reducible repeat (first | apply rA | apply rN | apply rD)); exact HO298.out)) k_ hk, Kd.fresh' (Kd.R_lt (by (with_reducible repeat (first | apply rA | apply rN | apply rD)); exact HO308.out)) k_ hk, Kd.fresh' (Kd.R_lt (by (with_reducible repeat (first | apply rA | apply rN | apply rD)); exact HO315.out)) k_ hk⟩)); (case aO => exact (by (with_reducible repeat (first | apply rA | apply rN | apply rD)); exact Kd.R_mono HO311.out (fun _ hk => ⟨hk.1.1, ⟨hk.1.2, hk.2⟩⟩))); (case aS => exact (below_size (by repeat (first | (with_reducible first | exact HB.out | apply lA | apply lN | apply lD | refine below_set ?_ GE299.out | refine below_set ?_ GE300.out | refine below_set ?_ GE301.out | refine below_set ?_ GE302.out) | exact HB.out)))); (case aL => have := LMc19.out; omega); intro v317 w139 ho hb hg hat; rw [← Ny316.out] at ho; have n0_ := aM (Kd.R_over' (by (with_reducible repeat (first | apply rA | apply rN | apply rD)); exact HO288.out) (Kd.R_typed (by (with_reducible repeat (first | apply rA | apply rN | apply rD)); exact HO311.out)) (by decide) hg); have n1_ := aM (Kd.R_after (ok := (fun k_ => some k_ ≠ (.slice Ao130 y306.length co130 : Value).ownBlock ∧ some k_ ≠ (.slice Ao140 y313.length co140 : Value).ownBlock)) (by (with_reducible repeat (first | apply rA | apply rN | apply rD)); exact Kd.R_mono HO298.out (fun _ hk => ⟨⟨hk.1.1.2, hk.2⟩, hk.1.2⟩)) hg hat); have n2_ := aM (blk_grown (g := gb299) (o := .cells #[.string t291, .string t292, .int .i64 t293, .string t294, .int .i64 t295, .slice Ao99 t296.length co99] 25 (0, 0)) (by (with_reducible repeat (first | refine bN ?_ _ | refine bD ?_ | refine bA ?_ _)); exact BK299.out) hg (Kd.R_ne HO311.out BK299.out (by decide))); have n3_ := aM (blk_grown (g := gb300) (o := .cells #[.string t291, .string t292, .int .i64 t293, .string t294, .int .i64 t295, .slice Ao130 y306.length co130] 25 (0, 0)) (by (with_reducible repeat (first | refine bN ?_ _ | refine bD ?_ | refine bA ?_ _)); exact BK300.out) hg (Kd.R_ne HO311.out BK300.out (by decide))); have n4_ := aM (blk_grown (g := gb301) (o := .cells #[.string t291, .string t292, .int .i64 t293, .string t294, .int .i64 t295, .slice Ao99 t296.length co99] 25 (0, 0)) (by (with_reducible repeat (first | refine bN ?_ _ | refine bD ?_ | refine bA ?_ _)); exact BK301.out) hg (Kd.R_ne HO311.out BK301.out (by decide))); have n5_ := aM (blk_grown (g := gb302) (o := .cells #[.string t291, .string t292, .int .i64 t293, .string t294, .int .i64 t295, .slice Ao99 t296.length co99] 25 (0, 0)) (by (with_reducible repeat (first | refine bN ?_ _ | refine bD ?_ | refine bA ?_ _)); exact BK302.out) hg (Kd.R_ne HO311.out BK302.out (by decide))); have n6_ := aM (Kd.R_after (ok := (fun k_ => some k_ ≠ (.slice Ao99 t296.length co99 : Value).ownBlock ∧ some k_ ≠ (.slice Ao140 y313.length co140 : Value).ownBlock)) (by (with_reducible repeat (first | apply rA | apply rN | apply rD)); exact Kd.R_mono HO308.out (fun _ hk => ⟨⟨hk.1.1, hk.2⟩, hk.1.2⟩)) hg hat); have n7_ := aM (Kd.R_after (ok := (fun k_ => some k_ ≠ (.slice Ao99 t296.length co99 : Value).ownBlock ∧ some k_ ≠ (.slice Ao130 y306.length co130 : Value).ownBlock)) (by (with_reducible repeat (first | apply rA | apply rN | apply rD)); exact Kd.R_mono HO315.out (fun _ hk => ⟨⟨hk.1.1.2, hk.1.2⟩, hk.2⟩)) hg hat); have n8_ := aM (hb); have n9_ := aM (ho); clear HO288; clear HO298; clear BK299; clear BK300; clear BK301; clear BK302; clear HO308; clear HO315; clear HB; clear HO311; have HO288 := n0_; have HO298 := n1_; have BK299 := n2_; have BK300 := n3_; have BK301 := n4_; have BK302 := n5_; have HO308 := n6_; have HO315 := n7_; have HB := n8_; have HO318 := n9_; clear n0_ n1_ n2_ n3_ n4_ n5_ n6_ n7_ n8_ n9_; clear ho hb hg hat; obtain ⟨Ao141, co141, eo141⟩ := Kd.R_slice HO318.out; subst eo141; have hnb142 := NB301_302.out; have hnc142 := NB302_301.out; have hcz143_0 : w139.cell? ⟨gb301, 0, none⟩ = some (.string t291) := (blk_cell BK301.out 0).trans rfl; have hcz143_1 : w139.cell? ⟨gb301, 1, none⟩ = some (.string t292) := (blk_cell BK301.out 1).trans rfl; have hcz143_2 : w139.cell? ⟨gb301, 2, none⟩ = some (.int .i64 t293) := (blk_cell BK301.out 2).trans rfl; have hcz143_3 : w139.cell? ⟨gb301, 3, none⟩ = some (.string t294) := (blk_cell BK301.out 3).trans rfl; have hcz143_4 : w139.cell? ⟨gb301, 4, none⟩ = some (.int .i64 t295) := (blk_cell BK301.out 4).trans rfl; have hcz143_5 : w139.cell? ⟨gb301, 5, none⟩ = some (.slice Ao99 t296.length co99) := (blk_cell BK301.out 5).trans rfl; have hfz143_0 := blk_frozen BK301.out 0; have hfz143_1 := blk_frozen BK301.out 1; have hfz143_2 := blk_frozen BK301.out 2; have hfz143_3 := blk_frozen BK301.out 3; have hfz143_4 := blk_frozen BK301.out 4; have hfz143_5 := blk_frozen BK301.out 5; have hcz144_0 : w139.cell? ⟨gb299, 0, none⟩ = some (.string t291) := (blk_cell BK299.out 0).trans rfl; have hcz144_1 : w139.cell? ⟨gb299, 1, none⟩ = some (.string t292) := (blk_cell BK299.out 1).trans rfl; have hcz144_2 : w139.cell? ⟨gb299, 2, none⟩ = some (.int .i64 t293) := (blk_cell BK299.out 2).trans rfl; have hcz144_3 : w139.cell? ⟨gb299, 3, none⟩ = some (.string t294) := (blk_cell BK299.out 3).trans rfl; have hcz144_4 : w139.cell? ⟨gb299, 4, none⟩ = some (.int .i64 t295) := (blk_cell BK299.out 4).trans rfl; have hcz144_5 : w139.cell? ⟨gb299, 5, none⟩ = some (.slice Ao99 t296.length co99) := (blk_cell BK299.out 5).trans rfl; have hfz144_0 := blk_frozen BK299.out 0; have hfz144_1 := blk_frozen BK299.out 1; have hfz144_2 := blk_frozen BK299.out 2; have hfz144_3 := blk_frozen BK299.out 3; have hfz144_4 := blk_frozen BK299.out 4; have hfz144_5 := blk_frozen BK299.out 5) | ((with_reducible refine gate_builtin (b := .append) (xs := #[.const (.slice none 0 0), .tmp 62]) rfl ?_); at_builtin; refine Kd.R_append_rows k32 (w0 := w) w.heap.size rfl (.const (.slice none 0 0)) (.tmp 62) 23 32 (.agg #[(.string ⟨#[]⟩), (.string ⟨#[]⟩)]) 32 rfl Tryd.underlying23 info32 rfl (by decide) (by omega) (.slice none 0 0) ([] : List (S32)) t296 _ _ _ (fun k_ => some k_ ≠ (.slice Ao99 t296.length co99 : Value).ownBlock ∧ some k_ ≠ (.slice Ao130 y306.length co130 : Value).ownBlock ∧ some k_ ≠ (.slice Ao140 y313.length co140 : Value).ownBlock ∧ some k_ ≠ (.slice Ao141 y316.length co141 : Value).ownBlock) (fun _ => False) rfl rfl ?aO ?aR (fun _ _ h => h) (fun _ h => h.elim) ?aF ?aB ?aS ?aL ?_; (case aR => refine (Kd.R_reads' (e := 32) (base := w.heap.size) (ok := fun k_ => ((some k_ ≠ (.slice Ao130 y306.length co130 : Value).ownBlock ∧ some k_ ≠ (.slice Ao140 y313.length co140 : Value).ownBlock) ∧ some k_ ≠ (.slice Ao141 y316.length co141 : Value).ownBlock)) (n := t296.length) (c := co99) ?_).2.2; exact (by (with_reducible repeat (first | apply rA | apply rN | apply rD)); exact (Kd.R_mono (Kd.R_far (p := ⟨gb301, 5, none⟩) (Kd.R_types HO298.out BK301.out (by decide)) (fun _ hk => hk.2) (.slice Ao141 y316.length co141)) (fun _ h_ => h_.1)))); (case aB => exact (by repeat (first | (with_reducible first | exact HB.out | apply lA | apply lN | apply lD | refine below_set ?_ GE299.out | refine below_set ?_ GE300.out | refine below_set ?_ GE301.out | refine below_set ?_ GE302.out) | exact HB.out))); (case aF => exact (fun k_ hk => ⟨Kd.fresh' (Kd.R_lt (by (with_reducible repeat (first | apply rA | apply rN | apply rD)); exact (Kd.R_mono (Kd.R_far (p := ⟨gb301, 5, none⟩) (Kd.R_types HO298.out BK301.out (by decide)) (fun _ hk => hk.2) (.slice Ao141 y316.length co141)) (fun _ h_ => h_.1)))) k_ hk, Kd.fresh' (Kd.R_lt (by (with_reducible repeat (first | apply rA | apply rN | apply rD)); exact (Kd.R_mono (Kd.R_far (p := ⟨gb301, 5, none⟩) (Kd.R_types HO308.out BK301.out (by decide)) (fun _ hk => hk.2) (.slice Ao141 y316.length co141)) (fun _ h_ => h_.1)))) k_ hk, Kd.fresh' (Kd.R_lt (by (with_reducible repeat (first | apply rA | apply rN | apply rD)); exact (Kd.R_mono (Kd.R_far (p := ⟨gb301, 5, none⟩) (Kd.R_types HO315.out BK301.out (by decide)) (fun _ hk => hk.2) (.slice Ao141 y316.length co141)) (fun _ h_ => h_.1)))) k_ hk, Kd.fresh' (Kd.R_lt (by (with_reducible repeat (first | apply rA | apply rN | apply rD)); exact (Kd.R_mono (Kd.R_far (p := ⟨gb301, 5, none⟩) (Kd.R_types HO318.out BK301.out (by decide)) (fun _ hk => hk.2) (.slice Ao141 y316.length co141)) (fun _ h_ => h_.1)))) k_ hk⟩)); (case aO => exact ((Kd.R_nil _ _ _ _ (fun k_ => some k_ ≠ (.slice Ao99 t296.length co99 : Value).ownBlock ∧ some k_ ≠ (.slice Ao130 y306.length co130 : Value).ownBlock ∧ some k_ ≠ (.slice Ao140 y313.length co140 : Value).ownBlock ∧ some k_ ≠ (.slice Ao141 y316.length co141 : Value).ownBlock)))); (case aS => exact (below_size (by repeat (first | (with_reducible first | exact HB.out | apply lA | apply lN | apply lD | refine below_set ?_ GE299.out | refine below_set ?_ GE300.out | refine below_set ?_ GE301.out | refine below_set ?_ GE302.out) | exact HB.out)))); (case aL => have := LMc14.out; omega); intro v320 w145 ho hb hg hat; rw [← Ny319.out] at ho; have n0_ := aM (Kd.R_grown (by (with_reducible repeat (first | apply rA | apply rN | apply rD)); exact (Kd.R_mono (Kd.R_far (p := ⟨gb301, 5, none⟩) (Kd.R_types HO288.out BK301.out (by decide)) (fun _ hk => hk.2) (.slice Ao141 y316.length co141)) (fun _ h_ => h_.1))) hg (fun _ _ => by simp [Value.ownBlock])); have n1_ := aM (Kd.R_after (Kd.R_apart_nil (by (with_reducible repeat (first | apply rA | apply rN | apply rD)); exact (Kd.R_mono (Kd.R_far (p := ⟨gb301, 5, none⟩) (Kd.R_types HO298.out BK301.out (by decide)) (fun _ hk => hk.2) (.slice Ao141 y316.length co141)) (fun _ h_ => h_.1)))) hg hat); have n2_ := aM (blk_grown (g := gb299) (o := .cells #[.string t291, .string t292, .int .i64 t293, .string t294, .int .i64 t295, .slice Ao99 t296.length co99] 25 (0, 0)) (by (with_reducible repeat (first | refine bN ?_ _ | refine bD ?_ | refine bA ?_ _)); refine blk_far ?_ NB299_301.out _; (with_reducible repeat (first | refine bN ?_ _ | refine bD ?_ | refine bA ?_ _)); exact BK299.out) hg (by simp [Value.ownBlock])); have n3_ := aM (blk_grown (g := gb300) (o := .cells #[.string t291, .string t292, .int .i64 t293, .string t294, .int .i64 t295, .slice Ao130 y306.length co130] 25 (0, 0)) (by (with_reducible repeat (first | refine bN ?_ _ | refine bD ?_ | refine bA ?_ _)); refine blk_far ?_ NB300_301.out _; (with_reducible repeat (first | refine bN ?_ _ | refine bD ?_ | refine bA ?_ _)); exact BK300.out) hg (by simp [Value.ownBlock])); have n4_ := aM (blk_grown (g := gb301) (o := .cells #[.string t291, .string t292, .int .i64 t293, .string t294, .int .i64 t295, .slice Ao141 y316.length co141] 25 (0, 0)) (by (with_reducible repeat (first | refine bN ?_ _ | refine bD ?_ | refine bA ?_ _)); refine blk_put (cs := #[.string t291, .string t292, .int .i64 t293, .string t294, .int .i64 t295, .slice Ao99 t296.length co99]) ?_ 5 _ rfl; (with_reducible repeat (first | refine bN ?_ _ | refine bD ?_ | refine bA ?_ _)); exact BK301.out) hg (by simp [Value.ownBlock])); have n5_ := aM (blk_grown (g := gb302) (o := .cells #[.string t291, .string t292, .int .i64 t293, .string t294, .int .i64 t295, .slice Ao99 t296.length co99] 25 (0, 0)) (by (with_reducible repeat (first | refine bN ?_ _ | refine bD ?_ | refine bA ?_ _)); refine blk_far ?_ NB302_301.out _; (with_reducible repeat (first | refine bN ?_ _ | refine bD ?_ | refine bA ?_ _)); exact BK302.out) hg (by simp [Value.ownBlock])); have n6_ := aM (Kd.R_after (Kd.R_apart_nil (by (with_reducible repeat (first | apply rA | apply rN | apply rD)); exact (Kd.R_mono (Kd.R_far (p := ⟨gb301, 5, none⟩) (Kd.R_types HO308.out BK301.out (by decide)) (fun _ hk => hk.2) (.slice Ao141 y316.length co141)) (fun _ h_ => h_.1)))) hg hat); have n7_ := aM (Kd.R_after (Kd.R_apart_nil (by (with_reducible repeat (first | apply rA | apply rN | apply rD)); exact (Kd.R_mono (Kd.R_far (p := ⟨gb301, 5, none⟩) (Kd.R_types HO315.out BK301.out (by decide)) (fun _ hk => hk.2) (.slice Ao141 y316.length co141)) (fun _ h_ => h_.1)))) hg hat); have n8_ := aM (Kd.R_after (Kd.R_apart_nil (by (with_reducible repeat (first | apply rA | apply rN | apply rD)); exact (Kd.R_mono (Kd.R_far (p := ⟨gb301, 5, none⟩) (Kd.R_types HO318.out BK301.out (by decide)) (fun _ hk => hk.2) (.slice Ao141 y316.length co141)) (fun _ h_ => h_.1)))) hg hat); have n9_ := aM (hb); have n10_ := aM (ho); clear HO288; clear HO298; clear BK299; clear BK300; clear BK301; clear BK302; clear HO308; clear HO315; clear HO318; clear HB; have HO288 := n0_; have HO298 := n1_; have BK299 := n2_; have BK300 := n3_; have BK301 := n4_; have BK302 := n5_; have HO308 := n6_; have HO315 := n7_; have HO318 := n8_; have HB := n9_; have HO321 := n10_; clear n0_ n1_ n2_ n3_ n4_ n5_ n6_ n7_ n8_ n9_ n10_; clear ho hb hg hat) | ((with_reducible refine gate_builtin (b := .append) (xs := #[.tmp 63, .tmp 65]) rfl ?_); at_builtin; refine Kd.R_append k32 (w0 := w) w.heap.size rfl (.tmp 63) (.tmp 65) 23 32 (.agg #[(.string ⟨#[]⟩), (.string ⟨#[]⟩)]) 32 rfl Tryd.underlying23 info32 rfl (by decide) (by omega) v320 y319 (⟨(⟨#[67, 111, 110, 110, 101, 99, 116, 105, 111, 110]⟩ : ByteArray), (⟨#[120, 44, 32, 99, 108, 111, 115, 101]⟩ : ByteArray)⟩ : S32) [.string (⟨#[67, 111, 110, 110, 101, 99, 116, 105, 111, 110]⟩ : ByteArray), .string (⟨#[120, 44, 32, 99, 108, 111, 115, 101]⟩ : ByteArray)] (fun k_ => some k_ ≠ (.slice Ao99 t296.length co99 : Value).ownBlock ∧ some k_ ≠ (.slice Ao130 y306.length co130 : Value).ownBlock ∧ some k_ ≠ (.slice Ao140 y313.length co140 : Value).ownBlock ∧ some k_ ≠ (.slice Ao141 y316.length co141 : Value).ownBlock) (fun _ => False) rfl rfl ?aP (fun _ hk => hk.elim) ?aF ?aO ?aB ?aS ?aL ?_; (case aP => exact k32_mkM _ _ _ (⟨(⟨#[67, 111, 110, 110, 101, 99, 116, 105, 111, 110]⟩ : ByteArray), (⟨#[120, 44, 32, 99, 108, 111, 115, 101]⟩ : ByteArray)⟩ : S32)); (case aB => exact (by repeat (first | (with_reducible first | exact HB.out | apply lA | apply lN | apply lD | refine below_set ?_ GE299.out | refine below_set ?_ GE300.out | refine below_set ?_ GE301.out | refine below_set ?_ GE302.out) | exact HB.out))); (case aF => exact (fun k_ hk => ⟨Kd.fresh' (Kd.R_lt (by (with_reducible repeat (first | apply rA | apply rN | apply rD)); exact HO298.out)) k_ hk, Kd.fresh' (Kd.R_lt (by (with_reducible repeat (first | apply rA | apply rN | apply rD)); exact HO308.out)) k_ hk, Kd.fresh' (Kd.R_lt (by (with_reducible repeat (first | apply rA | apply rN | apply rD)); exact HO315.out)) k_ hk, Kd.fresh' (Kd.R_lt (by (with_reducible repeat (first | apply rA | apply rN | apply rD)); exact HO318.out)) k_ hk⟩)); (case aO => exact (by (with_reducible repeat (first | apply rA | apply rN | apply rD)); exact HO321.out)); (case aS => exact (below_size (by repeat (first | (with_reducible first | exact HB.out | apply lA | apply lN | apply lD | refine below_set ?_ GE299.out | refine below_set ?_ GE300.out | refine below_set ?_ GE301.out | refine below_set ?_ GE302.out) | exact HB.out)))); (case aL => have := LMc20.out; omega); intro v323 w146 ho hb hg hat; rw [← Ny322.out] at ho; have n0_ := aM (Kd.R_over' (by (with_reducible repeat (first | apply rA | apply rN | apply rD)); exact HO288.out) (Kd.R_typed (by (with_reducible repeat (first | apply rA | apply rN | apply rD)); exact HO321.out)) (by decide) hg); have n1_ := aM (Kd.R_after (ok := (fun k_ => some k_ ≠ (.slice Ao130 y306.length co130 : Value).ownBlock ∧ some k_ ≠ (.slice Ao140 y313.length co140 : Value).ownBlock ∧ some k_ ≠ (.slice Ao141 y316.length co141 : Value).ownBlock)) (by (with_reducible repeat (first | apply rA | apply rN | apply rD)); exact Kd.R_mono HO298.out (fun _ hk => ⟨⟨hk.1.1.1, ⟨hk.1.1.2, hk.1.2⟩⟩, hk.2⟩)) hg hat); have n2_ := aM (blk_grown (g := gb299) (o := .cells #[.string t291, .string t292, .int .i64 t293, .string t294, .int .i64 t295, .slice Ao99 t296.length co99] 25 (0, 0)) (by (with_reducible repeat (first | refine bN ?_ _ | refine bD ?_ | refine bA ?_ _)); exact BK299.out) hg (Kd.R_ne HO321.out BK299.out (by decide))); have n3_ := aM (blk_grown (g := gb300) (o := .cells #[.string t291, .string t292, .int .i64 t293, .string t294, .int .i64 t295, .slice Ao130 y306.length co130] 25 (0, 0)) (by (with_reducible repeat (first | refine bN ?_ _ | refine bD ?_ | refine bA ?_ _)); exact BK300.out) hg (Kd.R_ne HO321.out BK300.out (by decide))); have n4_ := aM (blk_grown (g := gb301) (o := .cells #[.string t291, .string t292, .int .i64 t293, .string t294, .int .i64 t295, .slice Ao141 y316.length co141] 25 (0, 0)) (by (with_reducible repeat (first | refine bN ?_ _ | refine bD ?_ | refine bA ?_ _)); exact BK301.out) hg (Kd.R_ne HO321.out BK301.out (by decide))); have n5_ := aM (blk_grown (g := gb302) (o := .cells #[.string t291, .string t292, .int .i64 t293, .string t294, .int .i64 t295, .slice Ao99 t296.length co99] 25 (0, 0)) (by (with_reducible repeat (first | refine bN ?_ _ | refine bD ?_ | refine bA ?_ _)); exact BK302.out) hg (Kd.R_ne HO321.out BK302.out (by decide))); have n6_ := aM (Kd.R_after (ok := (fun k_ => some k_ ≠ (.slice Ao99 t296.length co99 : Value).ownBlock ∧ some k_ ≠ (.slice Ao140 y313.length co140 : Value).ownBlock ∧ some k_ ≠ (.slice Ao141 y316.length co141 : Value).ownBlock)) (by (with_reducible repeat (first | apply rA | apply rN | apply rD)); exact Kd.R_mono HO308.out (fun _ hk => ⟨⟨hk.1.1.1, ⟨hk.1.1.2, hk.1.2⟩⟩, hk.2⟩)) hg hat); have n7_ := aM (Kd.R_after (ok := (fun k_ => some k_ ≠ (.slice Ao99 t296.length co99 : Value).ownBlock ∧ some k_ ≠ (.slice Ao130 y306.length co130 : Value).ownBlock ∧ some k_ ≠ (.slice Ao141 y316.length co141 : Value).ownBlock)) (by (with_reducible repeat (first | apply rA | apply rN | apply rD)); exact Kd.R_mono HO315.out (fun _ hk => ⟨⟨hk.1.1.1, ⟨hk.1.1.2, hk.1.2⟩⟩, hk.2⟩)) hg hat); have n8_ := aM (Kd.R_after (ok := (fun k_ => some k_ ≠ (.slice Ao99 t296.length co99 : Value).ownBlock ∧ some k_ ≠ (.slice Ao130 y306.length co130 : Value).ownBlock ∧ some k_ ≠ (.slice Ao140 y313.length co140 : Value).ownBlock)) (by (with_reducible repeat (first | apply rA | apply rN | apply rD)); exact HO318.out) hg hat); have n9_ := aM (hb); have n10_ := aM (ho); clear HO288; clear HO298; clear BK299; clear BK300; clear BK301; clear BK302; clear HO308; clear HO315; clear HO318; clear HB; clear HO321; have HO288 := n0_; have HO298 := n1_; have BK299 := n2_; have BK300 := n3_; have BK301 := n4_; have BK302 := n5_; have HO308 := n6_; have HO315 := n7_; have HO318 := n8_; have HB := n9_; have HO324 := n10_; clear n0_ n1_ n2_ n3_ n4_ n5_ n6_ n7_ n8_ n9_ n10_; clear ho hb hg hat; obtain ⟨Ao147, co147, eo147⟩ := Kd.R_slice HO324.out; subst eo147; have hcz148_0 : w146.cell? ⟨gb302, 0, none⟩ = some (.string t291) := (blk_cell BK302.out 0).trans rfl; have hcz148_1 : w146.cell? ⟨gb302, 1, none⟩ = some (.string t292) := (blk_cell BK302.out 1).trans rfl; have hcz148_2 : w146.cell? ⟨gb302, 2, none⟩ = some (.int .i64 t293) := (blk_cell BK302.out 2).trans rfl; have hcz148_3 : w146.cell? ⟨gb302, 3, none⟩ = some (.string t294) := (blk_cell BK302.out 3).trans rfl; have hcz148_4 : w146.cell? ⟨gb302, 4, none⟩ = some (.int .i64 t295) := (blk_cell BK302.out 4).trans rfl; have hcz148_5 : w146.cell? ⟨gb302, 5, none⟩ = some (.slice Ao99 t296.length co99) := (blk_cell BK302.out 5).trans rfl; have hfz148_0 := blk_frozen BK302.out 0; have hfz148_1 := blk_frozen BK302.out 1; have hfz148_2 := blk_frozen BK302.out 2; have hfz148_3 := blk_frozen BK302.out 3; have hfz148_4 := blk_frozen BK302.out 4; have hfz148_5 := blk_frozen BK302.out 5))
               have n0_ : Aside0 (Kd.R Kd.string 9 (w146.setCell ⟨gb302, 5, none⟩ (.slice Ao147 y322.length co147)) w.heap.size (fun _ => True) (.slice (some ad289) y286.length co95) y286) := ⟨by (with_reducible repeat (first | apply rA | apply rN | apply rD)); exact Kd.R_mono (Kd.R_far (p := ⟨gb302, 5, none⟩) (Kd.R_types HO288.out BK302.out (by decide)) (fun _ hk => hk.2) (.slice Ao147 y322.length co147)) (fun _ hk => trivial)⟩
               have n1_ : Aside0 (Kd.R k32 32 (w146.setCell ⟨gb302, 5, none⟩ (.slice Ao147 y322.length co147)) w.heap.size (fun k_ => some k_ ≠ (.slice Ao130 y306.length co130 : Value).ownBlock ∧ some k_ ≠ (.slice Ao140 y313.length co140 : Value).ownBlock ∧ some k_ ≠ (.slice Ao141 y316.length co141 : Value).ownBlock ∧ some k_ ≠ (.slice Ao147 y322.length co147 : Value).ownBlock) (.slice Ao99 t296.length co99) t296) := ⟨by (with_reducible repeat (first | apply rA | apply rN | apply rD)); exact Kd.R_mono (Kd.R_far (p := ⟨gb302, 5, none⟩) (Kd.R_types HO298.out BK302.out (by decide)) (fun _ hk => hk.2) (.slice Ao147 y322.length co147)) (fun _ hk => ⟨hk.1.1.1, ⟨hk.1.1.2.1, ⟨hk.1.1.2.2, hk.1.2⟩⟩⟩)⟩
               have n2_ : Aside0 (Kd.R k32 32 (w146.setCell ⟨gb302, 5, none⟩ (.slice Ao147 y322.length co147)) w.heap.size (fun k_ => some k_ ≠ (.slice Ao99 t296.length co99 : Value).ownBlock ∧ some k_ ≠ (.slice Ao140 y313.length co140 : Value).ownBlock ∧ some k_ ≠ (.slice Ao141 y316.length co141 : Value).ownBlock ∧ some k_ ≠ (.slice Ao147 y322.length co147 : Value).ownBlock) (.slice Ao130 y306.length co130) y306) := ⟨by (with_reducible repeat (first | apply rA | apply rN | apply rD)); exact Kd.R_mono (Kd.R_far (p := ⟨gb302, 5, none⟩) (Kd.R_types HO308.out BK302.out (by decide)) (fun _ hk => hk.2) (.slice Ao147 y322.length co147)) (fun _ hk => ⟨hk.1.1.1, ⟨hk.1.1.2.1, ⟨hk.1.1.2.2, hk.1.2⟩⟩⟩)⟩
               have n3_ : Aside0 (Kd.R k32 32 (w146.setCell ⟨gb302, 5, none⟩ (.slice Ao147 y322.length co147)) w.heap.size (fun k_ => some k_ ≠ (.slice Ao99 t296.length co99 : Value).ownBlock ∧ some k_ ≠ (.slice Ao130 y306.length co130 : Value).ownBlock ∧ some k_ ≠ (.slice Ao141 y316.length co141 : Value).ownBlock ∧ some k_ ≠ (.slice Ao147 y322.length co147 : Value).ownBlock) (.slice Ao140 y313.length co140) y313) := ⟨by (with_reducible repeat (first | apply rA | apply rN | apply rD)); exact Kd.R_mono (Kd.R_far (p := ⟨gb302, 5, none⟩) (Kd.R_types HO315.out BK302.out (by decide)) (fun _ hk => hk.2) (.slice Ao147 y322.length co147)) (fun _ hk => ⟨hk.1.1.1, ⟨hk.1.1.2.1, ⟨hk.1.1.2.2, hk.1.2⟩⟩⟩)⟩
               have n4_ : Aside0 (Kd.R k32 32 (w146.setCell ⟨gb302, 5, none⟩ (.slice Ao147 y322.length co147)) w.heap.size (fun k_ => some k_ ≠ (.slice Ao99 t296.length co99 : Value).ownBlock ∧ some k_ ≠ (.slice Ao130 y306.length co130 : Value).ownBlock ∧ some k_ ≠ (.slice Ao140 y313.length co140 : Value).ownBlock ∧ some k_ ≠ (.slice Ao147 y322.length co147 : Value).ownBlock) (.slice Ao141 y316.length co141) y316) := ⟨by (with_reducible repeat (first | apply rA | apply rN | apply rD)); exact Kd.R_mono (Kd.R_far (p := ⟨gb302, 5, none⟩) (Kd.R_types HO318.out BK302.out (by decide)) (fun _ hk => hk.2) (.slice Ao147 y322.length co147)) (fun _ hk => ⟨hk.1.1.1, ⟨hk.1.1.2.1, ⟨hk.1.1.2.2, hk.1.2⟩⟩⟩)⟩
               have n5_ : Aside0 (Kd.R k32 32 (w146.setCell ⟨gb302, 5, none⟩ (.slice Ao147 y322.length co147)) w.heap.size (fun k_ => some k_ ≠ (.slice Ao99 t296.length co99 : Value).ownBlock ∧ some k_ ≠ (.slice Ao130 y306.length co130 : Value).ownBlock ∧ some k_ ≠ (.slice Ao140 y313.length co140 : Value).ownBlock ∧ some k_ ≠ (.slice Ao141 y316.length co141 : Value).ownBlock) (.slice Ao147 y322.length co147) y322) := ⟨by (with_reducible repeat (first | apply rA | apply rN | apply rD)); exact Kd.R_mono (Kd.R_far (p := ⟨gb302, 5, none⟩) (Kd.R_types HO324.out BK302.out (by decide)) (fun _ hk => hk.2) (.slice Ao147 y322.length co147)) (fun _ hk => ⟨hk.1.1, ⟨hk.1.2.1, ⟨hk.1.2.2.1, hk.1.2.2.2⟩⟩⟩)⟩
               have n6_ : Aside0 ((w146.setCell ⟨gb302, 5, none⟩ (.slice Ao147 y322.length co147)).heap[gb299]? = some (.cells #[.string t291, .string t292, .int .i64 t293, .string t294, .int .i64 t295, .slice Ao99 t296.length co99] 25 (0, 0))) := ⟨by (with_reducible repeat (first | refine bN ?_ _ | refine bD ?_ | refine bA ?_ _)); refine blk_far ?_ NB299_302.out _; (with_reducible repeat (first | refine bN ?_ _ | refine bD ?_ | refine bA ?_ _)); exact BK299.out⟩
               have n7_ : Aside0 ((w146.setCell ⟨gb302, 5, none⟩ (.slice Ao147 y322.length co147)).heap[gb300]? = some (.cells #[.string t291, .string t292, .int .i64 t293, .string t294, .int .i64 t295, .slice Ao130 y306.length co130] 25 (0, 0))) := ⟨by (with_reducible repeat (first | refine bN ?_ _ | refine bD ?_ | refine bA ?_ _)); refine blk_far ?_ NB300_302.out _; (with_reducible repeat (first | refine bN ?_ _ | refine bD ?_ | refine bA ?_ _)); exact BK300.out⟩
               have n8_ : Aside0 ((w146.setCell ⟨gb302, 5, none⟩ (.slice Ao147 y322.length co147)).heap[gb301]? = some (.cells #[.string t291, .string t292, .int .i64 t293, .string t294, .int .i64 t295, .slice Ao141 y316.length co141] 25 (0, 0))) := ⟨by (with_reducible repeat (first | refine bN ?_ _ | refine bD ?_ | refine bA ?_ _)); refine blk_far ?_ NB301_302.out _; (with_reducible repeat (first | refine bN ?_ _ | refine bD ?_ | refine bA ?_ _)); exact BK301.out⟩
               have n9_ : Aside0 ((w146.setCell ⟨gb302, 5, none⟩ (.slice Ao147 y322.length co147)).heap[gb302]? = some (.cells #[.string t291, .string t292, .int .i64 t293, .string t294, .int .i64 t295, .slice Ao147 y322.length co147] 25 (0, 0))) := ⟨by (with_reducible repeat (first | refine bN ?_ _ | refine bD ?_ | refine bA ?_ _)); refine blk_put (cs := #[.string t291, .string t292, .int .i64 t293, .string t294, .int .i64 t295, .slice Ao99 t296.length co99]) ?_ 5 _ rfl; (with_reducible repeat (first | refine bN ?_ _ | refine bD ?_ | refine bA ?_ _)); exact BK302.out⟩
               have n10_ : Aside0 (Below w.heap.size w (w146.setCell ⟨gb302, 5, none⟩ (.slice Ao147 y322.length co147))) := ⟨by repeat (first | (with_reducible first | exact HB.out | apply lA | apply lN | apply lD | refine below_set ?_ GE299.out | refine below_set ?_ GE300.out | refine below_set ?_ GE301.out | refine below_set ?_ GE302.out) | exact HB.out)⟩
               (try clear HO288)
               (try clear HO298)
               (try clear HO308)
               (try clear HO315)
               (try clear HO318)
               (try clear HO324)
               (try clear BK299)
               (try clear BK300)
               (try clear BK301)
               (try clear BK302)
               (try clear HB)
               generalize (w146.setCell ⟨gb302, 5, none⟩ (.slice Ao147 y322.length co147)) = w149 at n0_ n1_ n2_ n3_ n4_ n5_ n6_ n7_ n8_ n9_ n10_ ⊢
               have HO288 := n0_
               have HO298 := n1_
               have HO308 := n2_
               have HO315 := n3_
               have HO318 := n4_
               have HO324 := n5_
               have BK299 := n6_
               have BK300 := n7_
               have BK301 := n8_
               have BK302 := n9_
               have HB := n10_
               clear n0_ n1_ n2_ n3_ n4_ n5_ n6_ n7_ n8_ n9_ n10_
               have n0_ := aM (rD HO288.out)
               have n1_ := aM (rD HO298.out)
               have n2_ := aM (rD HO308.out)
               have n3_ := aM (rD HO315.out)
               have n4_ := aM (rD HO318.out)
               have n5_ := aM (rD HO324.out)
               have n6_ := aM (bD BK299.out)
               have n7_ := aM (bD BK300.out)
               have n8_ := aM (bD BK301.out)
               have n9_ := aM (bD BK302.out)
               have n10_ := aM (lD HB.out)
               clear HO288
               clear HO298
               clear HO308
               clear HO315
               clear HO318
               clear HO324
               clear BK299
               clear BK300
               clear BK301
               clear BK302
               clear HB
               have HO288 := n0_
               have HO298 := n1_
               have HO308 := n2_
               have HO315 := n3_
               have HO318 := n4_
               have HO324 := n5_
               have BK299 := n6_
               have BK300 := n7_
               have BK301 := n8_
               have BK302 := n9_
               have HB := n10_
               clear n0_ n1_ n2_ n3_ n4_ n5_ n6_ n7_ n8_ n9_ n10_
               refine start_ (n := 23) (S := fun w' => w'.cell? ⟨gb300, 0, none⟩ = some (.string t291) ∧ w'.cell? ⟨gb300, 1, none⟩ = some (.string t292) ∧ w'.cell? ⟨gb300, 2, none⟩ = some (.int .i64 t293) ∧ w'.cell? ⟨gb300, 3, none⟩ = some (.string t294) ∧ w'.cell? ⟨gb300, 4, none⟩ = some (.int .i64 t295) ∧ w'.cell? ⟨gb300, 5, none⟩ = some (.slice Ao130 y306.length co130) ∧ w'.cell? ⟨gb301, 0, none⟩ = some (.string t291) ∧ w'.cell? ⟨gb301, 1, none⟩ = some (.string t292) ∧ w'.cell? ⟨gb301, 2, none⟩ = some (.int .i64 t293) ∧ w'.cell? ⟨gb301, 3, none⟩ = some (.string t294) ∧ w'.cell? ⟨gb301, 4, none⟩ = some (.int .i64 t295) ∧ w'.cell? ⟨gb301, 5, none⟩ = some (.slice Ao141 y316.length co141) ∧ w'.cell? ⟨gb302, 0, none⟩ = some (.string t291) ∧ w'.cell? ⟨gb302, 1, none⟩ = some (.string t292) ∧ w'.cell? ⟨gb302, 2, none⟩ = some (.int .i64 t293) ∧ w'.cell? ⟨gb302, 3, none⟩ = some (.string t294) ∧ w'.cell? ⟨gb302, 4, none⟩ = some (.int .i64 t295) ∧ w'.cell? ⟨gb302, 5, none⟩ = some (.slice Ao147 y322.length co147) ∧ w'.cell? ⟨gb299, 0, none⟩ = some (.string t291) ∧ w'.cell? ⟨gb299, 1, none⟩ = some (.string t292) ∧ w'.cell? ⟨gb299, 2, none⟩ = some (.int .i64 t293) ∧ w'.cell? ⟨gb299, 3, none⟩ = some (.string t294) ∧ w'.cell? ⟨gb299, 4, none⟩ = some (.int .i64 t295) ∧ w'.cell? ⟨gb299, 5, none⟩ = some (.slice Ao99 t296.length co99)) (ds := []) #[false, false, false, false, false, false, false, false, false, false, false, false, false, false, false, false, false, false, false, false, false, false, false] (by kernel_rfl) rfl rfl ⟨(blk_cell BK300.out 0).trans rfl, (blk_cell BK300.out 1).trans rfl, (blk_cell BK300.out 2).trans rfl, (blk_cell BK300.out 3).trans rfl, (blk_cell BK300.out 4).trans rfl, (blk_cell BK300.out 5).trans rfl, (blk_cell BK301.out 0).trans rfl, (blk_cell BK301.out 1).trans rfl, (blk_cell BK301.out 2).trans rfl, (blk_cell BK301.out 3).trans rfl, (blk_cell BK301.out 4).trans rfl, (blk_cell BK301.out 5).trans rfl, (blk_cell BK302.out 0).trans rfl, (blk_cell BK302.out 1).trans rfl, (blk_cell BK302.out 2).trans rfl, (blk_cell BK302.out 3).trans rfl, (blk_cell BK302.out 4).trans rfl, (blk_cell BK302.out 5).trans rfl, (blk_cell BK299.out 0).trans rfl, (blk_cell BK299.out 1).trans rfl, (blk_cell BK299.out 2).trans rfl, (blk_cell BK299.out 3).trans rfl, (blk_cell BK299.out 4).trans rfl, (blk_cell BK299.out 5).trans rfl⟩ (fun hHeld => ?_); refine with_tabW lockagelaw07_FrameStays.tab11 lockagelaw07_FrameStays.bits11 (fun HT_ HW_ => ?_)
               generalize w149.drew = w150 at HO288 HO298 HO308 HO315 HO318 HO324 BK299 BK300 BK301 BK302 HB hHeld ⊢
               refine pure_ (i := 0) (N := some 68) (v := ?_) (a' := ?_) #[true, false, false, false, false, false, false, false, false, false, false, false, false, false, false, false, false, false, false, false, false, false, false] rfl rfl (any_of HT_.out (by kernel_rfl)) (fun _ _ _ h => h) (Or.inl ⟨by rfl, ?_⟩) ?_ ?_
               rotate_left
               ·intro w'
                go_simp
                with_reducible rfl
               rotate_left
               ·simp only [Act.put, List.setIfInBounds_toArray, List.set_cons_zero, List.set_cons_succ, i64_w, i32_w]
                rfl
               refine pure_ (i := 1) (N := some 69) (v := ?_) (a' := ?_) #[true, true, false, false, false, false, false, false, false, false, false, false, false, false, false, false, false, false, false, false, false, false, false] rfl rfl (any_of HT_.out (by kernel_rfl)) (fun _ _ _ h => h) (Or.inl ⟨by rfl, ?_⟩) ?_ ?_
               rotate_left
               ·intro w'
                go_simp
                with_reducible rfl
               rotate_left
               ·simp only [Act.put, List.setIfInBounds_toArray, List.set_cons_zero, List.set_cons_succ, i64_w, i32_w]
                rfl
               refine take_ (i := 2) (N := some 70) (v := ?_) (a' := ?_) #[true, true, true, false, false, false, false, false, false, false, false, false, false, false, false, false, false, false, false, false, false, false, false] rfl rfl (take_ofW HT_.out HW_.out (by kernel_rfl)) (fun _ _ _ h => h) (Or.inl ⟨by rfl, ?_⟩) hHeld ?_ ?_
               rotate_left
               ·rintro w' ⟨s0, s1, s2, s3, s4, s5, s6, s7, s8, s9, s10, s11, s12, s13, s14, s15, s16, s17, s18, s19, s20, s21, s22, s23⟩
                go_simp
                with_reducible rfl
               rotate_left
               ·simp only [Act.put, List.setIfInBounds_toArray, List.set_cons_zero, List.set_cons_succ, i64_w, i32_w]
                rfl
               refine take_ (i := 4) (N := some 72) (v := ?_) (a' := ?_) #[true, true, true, false, true, false, false, false, false, false, false, false, false, false, false, false, false, false, false, false, false, false, false] rfl rfl (take_ofW HT_.out HW_.out (by kernel_rfl)) (fun _ _ _ h => h) (Or.inl ⟨by rfl, ?_⟩) hHeld ?_ ?_
               rotate_left
               ·rintro w' ⟨s0, s1, s2, s3, s4, s5, s6, s7, s8, s9, s10, s11, s12, s13, s14, s15, s16, s17, s18, s19, s20, s21, s22, s23⟩
                go_simp
                with_reducible rfl
               rotate_left
               ·simp only [Act.put, List.setIfInBounds_toArray, List.set_cons_zero, List.set_cons_succ, i64_w, i32_w]
                rfl
               refine one_ (i := 3) (N := some 71) #[true, true, true, true, true, false, false, false, false, false, false, false, false, false, false, false, false, false, false, false, false, false, false] rfl rfl (one_of HT_.out (by kernel_rfl)) (by decide) (fun K hK => ?_)
               refine goes_ Tryd.func15 (by kernel_rfl) rfl #[.agg #[.string t291, .string t292, .int .i64 t293, .string t294, .int .i64 t295, .slice Ao130 y306.length co130]] (by rfl) rfl rfl (by (try simp only [List.map_toArray, List.map_cons, List.map_nil]); first | done | rfl | (simp only [List.length_drop, List.length_take]; rfl)) ?_
               with_reducible refine (frame_Stays.calls k t291 t292 t293 t294 t295 _ _ y306 t325 _ ?side1 ?side2 A21.out).mono ?_
               (case side1 => repeat (first | exact (Kd.R_reads' HO308.out).2.2 | (with_reducible refine Kd.C_alloc ?_ _) | (with_reducible refine Kd.C_drewN ?_ _) | (with_reducible refine Kd.C_drew ?_)))
               (case side2 => exact (Kd.R_reads' HO308.out).2.1)
               rintro e w151 ⟨rfl, hb⟩
               refine ⟨_, rfl, ?_⟩
               have n0_ := aM (Kd.R_below (by (with_reducible repeat (first | apply rA | apply rN | apply rD)); exact HO288.out) hb)
               have n1_ := aM (Kd.R_below (by (with_reducible repeat (first | apply rA | apply rN | apply rD)); exact HO298.out) hb)
               have n2_ := aM (Kd.R_below (by (with_reducible repeat (first | apply rA | apply rN | apply rD)); exact HO308.out) hb)
               have n3_ := aM (Kd.R_below (by (with_reducible repeat (first | apply rA | apply rN | apply rD)); exact HO315.out) hb)
               have n4_ := aM (Kd.R_below (by (with_reducible repeat (first | apply rA | apply rN | apply rD)); exact HO318.out) hb)
               have n5_ := aM (Kd.R_below (by (with_reducible repeat (first | apply rA | apply rN | apply rD)); exact HO324.out) hb)
               have n6_ := aM (blk_below (g := gb299) (o := .cells #[.string t291, .string t292, .int .i64 t293, .string t294, .int .i64 t295, .slice Ao99 t296.length co99] 25 (0, 0)) (by (with_reducible repeat (first | refine bN ?_ _ | refine bD ?_ | refine bA ?_ _)); exact BK299.out) hb)
               have n7_ := aM (blk_below (g := gb300) (o := .cells #[.string t291, .string t292, .int .i64 t293, .string t294, .int .i64 t295, .slice Ao130 y306.length co130] 25 (0, 0)) (by (with_reducible repeat (first | refine bN ?_ _ | refine bD ?_ | refine bA ?_ _)); exact BK300.out) hb)
               have n8_ := aM (blk_below (g := gb301) (o := .cells #[.string t291, .string t292, .int .i64 t293, .string t294, .int .i64 t295, .slice Ao141 y316.length co141] 25 (0, 0)) (by (with_reducible repeat (first | refine bN ?_ _ | refine bD ?_ | refine bA ?_ _)); exact BK301.out) hb)
               have n9_ := aM (blk_below (g := gb302) (o := .cells #[.string t291, .string t292, .int .i64 t293, .string t294, .int .i64 t295, .slice Ao147 y322.length co147] 25 (0, 0)) (by (with_reducible repeat (first | refine bN ?_ _ | refine bD ?_ | refine bA ?_ _)); exact BK302.out) hb)
               have n10_ := aM (below_step (by repeat (first | (with_reducible first | exact HB.out | apply lA | apply lN | apply lD | refine below_set ?_ GE299.out | refine below_set ?_ GE300.out | refine below_set ?_ GE301.out | refine below_set ?_ GE302.out) | exact HB.out)) hb)
               clear HO288
               clear HO298
               clear HO308
               clear HO315
               clear HO318
               clear HO324
               clear BK299
               clear BK300
               clear BK301
               clear BK302
               clear HB
               have HO288 := n0_
               have HO298 := n1_
               have HO308 := n2_
               have HO315 := n3_
               have HO318 := n4_
               have HO324 := n5_
               have BK299 := n6_
               have BK300 := n7_
               have BK301 := n8_
               have BK302 := n9_
               have HB := n10_
               clear n0_ n1_ n2_ n3_ n4_ n5_ n6_ n7_ n8_ n9_ n10_
               (try clear hb)
               (try clear hb2)
               (try clear hk)
               (try clear hi)
               refine hK.out _ _ ⟨(blk_cell BK300.out 0).trans rfl, (blk_cell BK300.out 1).trans rfl, (blk_cell BK300.out 2).trans rfl, (blk_cell BK300.out 3).trans rfl, (blk_cell BK300.out 4).trans rfl, (blk_cell BK300.out 5).trans rfl, (blk_cell BK301.out 0).trans rfl, (blk_cell BK301.out 1).trans rfl, (blk_cell BK301.out 2).trans rfl, (blk_cell BK301.out 3).trans rfl, (blk_cell BK301.out 4).trans rfl, (blk_cell BK301.out 5).trans rfl, (blk_cell BK302.out 0).trans rfl, (blk_cell BK302.out 1).trans rfl, (blk_cell BK302.out 2).trans rfl, (blk_cell BK302.out 3).trans rfl, (blk_cell BK302.out 4).trans rfl, (blk_cell BK302.out 5).trans rfl, (blk_cell BK299.out 0).trans rfl, (blk_cell BK299.out 1).trans rfl, (blk_cell BK299.out 2).trans rfl, (blk_cell BK299.out 3).trans rfl, (blk_cell BK299.out 4).trans rfl, (blk_cell BK299.out 5).trans rfl⟩ (fun hHeld => ?_)
               clear hK K
               refine norm_ (a' := ?_) ?_ ?_
               rotate_left
               ·show Act.put _ (some 71) _ = _
                simp only [Act.put, List.setIfInBounds_toArray, List.set_cons_zero, List.set_cons_succ, i64_w, i32_w]
                rfl
               refine one_ (i := 5) (N := some 73) #[true, true, true, true, true, true, false, false, false, false, false, false, false, false, false, false, false, false, false, false, false, false, false] rfl rfl (one_of HT_.out (by kernel_rfl)) (by decide) (fun K hK => ?_)
               refine goes_ Tryd.func15 (by kernel_rfl) rfl #[.agg #[.string t291, .string t292, .int .i64 t293, .string t294, .int .i64 t295, .slice Ao141 y316.length co141]] (by rfl) rfl rfl (by (try simp only [List.map_toArray, List.map_cons, List.map_nil]); first | done | rfl | (simp only [List.length_drop, List.length_take]; rfl)) ?_
               with_reducible refine (frame_Stays.calls k t291 t292 t293 t294 t295 _ _ y316 t326 _ ?side1 ?side2 A22.out).mono ?_
               (case side1 => repeat (first | exact (Kd.R_reads' HO318.out).2.2 | (with_reducible refine Kd.C_alloc ?_ _) | (with_reducible refine Kd.C_drewN ?_ _) | (with_reducible refine Kd.C_drew ?_)))
               (case side2 => exact (Kd.R_reads' HO318.out).2.1)
               rintro e w152 ⟨rfl, hb⟩
               refine ⟨_, rfl, ?_⟩
               have n0_ := aM (Kd.R_below (by (with_reducible repeat (first | apply rA | apply rN | apply rD)); exact HO288.out) hb)
               have n1_ := aM (Kd.R_below (by (with_reducible repeat (first | apply rA | apply rN | apply rD)); exact HO298.out) hb)
               have n2_ := aM (Kd.R_below (by (with_reducible repeat (first | apply rA | apply rN | apply rD)); exact HO308.out) hb)
               have n3_ := aM (Kd.R_below (by (with_reducible repeat (first | apply rA | apply rN | apply rD)); exact HO315.out) hb)
               have n4_ := aM (Kd.R_below (by (with_reducible repeat (first | apply rA | apply rN | apply rD)); exact HO318.out) hb)
               have n5_ := aM (Kd.R_below (by (with_reducible repeat (first | apply rA | apply rN | apply rD)); exact HO324.out) hb)
               have n6_ := aM (blk_below (g := gb299) (o := .cells #[.string t291, .string t292, .int .i64 t293, .string t294, .int .i64 t295, .slice Ao99 t296.length co99] 25 (0, 0)) (by (with_reducible repeat (first | refine bN ?_ _ | refine bD ?_ | refine bA ?_ _)); exact BK299.out) hb)
               have n7_ := aM (blk_below (g := gb300) (o := .cells #[.string t291, .string t292, .int .i64 t293, .string t294, .int .i64 t295, .slice Ao130 y306.length co130] 25 (0, 0)) (by (with_reducible repeat (first | refine bN ?_ _ | refine bD ?_ | refine bA ?_ _)); exact BK300.out) hb)
               have n8_ := aM (blk_below (g := gb301) (o := .cells #[.string t291, .string t292, .int .i64 t293, .string t294, .int .i64 t295, .slice Ao141 y316.length co141] 25 (0, 0)) (by (with_reducible repeat (first | refine bN ?_ _ | refine bD ?_ | refine bA ?_ _)); exact BK301.out) hb)
               have n9_ := aM (blk_below (g := gb302) (o := .cells #[.string t291, .string t292, .int .i64 t293, .string t294, .int .i64 t295, .slice Ao147 y322.length co147] 25 (0, 0)) (by (with_reducible repeat (first | refine bN ?_ _ | refine bD ?_ | refine bA ?_ _)); exact BK302.out) hb)
               have n10_ := aM (below_step (by repeat (first | (with_reducible first | exact HB.out | apply lA | apply lN | apply lD | refine below_set ?_ GE299.out | refine below_set ?_ GE300.out | refine below_set ?_ GE301.out | refine below_set ?_ GE302.out) | exact HB.out)) hb)
               clear HO288
               clear HO298
               clear HO308
               clear HO315
               clear HO318
               clear HO324
               clear BK299
               clear BK300
               clear BK301
               clear BK302
               clear HB
               have HO288 := n0_
               have HO298 := n1_
               have HO308 := n2_
               have HO315 := n3_
               have HO318 := n4_
               have HO324 := n5_
               have BK299 := n6_
               have BK300 := n7_
               have BK301 := n8_
               have BK302 := n9_
               have HB := n10_
               clear n0_ n1_ n2_ n3_ n4_ n5_ n6_ n7_ n8_ n9_ n10_
               (try clear hb)
               (try clear hb2)
               (try clear hk)
               (try clear hi)
               refine hK.out _ _ ⟨(blk_cell BK300.out 0).trans rfl, (blk_cell BK300.out 1).trans rfl, (blk_cell BK300.out 2).trans rfl, (blk_cell BK300.out 3).trans rfl, (blk_cell BK300.out 4).trans rfl, (blk_cell BK300.out 5).trans rfl, (blk_cell BK301.out 0).trans rfl, (blk_cell BK301.out 1).trans rfl, (blk_cell BK301.out 2).trans rfl, (blk_cell BK301.out 3).trans rfl, (blk_cell BK301.out 4).trans rfl, (blk_cell BK301.out 5).trans rfl, (blk_cell BK302.out 0).trans rfl, (blk_cell BK302.out 1).trans rfl, (blk_cell BK302.out 2).trans rfl, (blk_cell BK302.out 3).trans rfl, (blk_cell BK302.out 4).trans rfl, (blk_cell BK302.out 5).trans rfl, (blk_cell BK299.out 0).trans rfl, (blk_cell BK299.out 1).trans rfl, (blk_cell BK299.out 2).trans rfl, (blk_cell BK299.out 3).trans rfl, (blk_cell BK299.out 4).trans rfl, (blk_cell BK299.out 5).trans rfl⟩ (fun hHeld => ?_)
               clear hK K
               refine norm_ (a' := ?_) ?_ ?_
               rotate_left
               ·show Act.put _ (some 73) _ = _
                simp only [Act.put, List.setIfInBounds_toArray, List.set_cons_zero, List.set_cons_succ, i64_w, i32_w]
                rfl
               refine pure_ (i := 6) (N := some 74) (v := ?_) (a' := ?_) #[true, true, true, true, true, true, true, false, false, false, false, false, false, false, false, false, false, false, false, false, false, false, false] rfl rfl (any_of HT_.out (by kernel_rfl)) (fun _ _ _ h => h) (Or.inl ⟨by rfl, ?_⟩) ?_ ?_
               rotate_left
               ·intro w'
                go_simp
                with_reducible rfl
               rotate_left
               ·simp only [Act.put, List.setIfInBounds_toArray, List.set_cons_zero, List.set_cons_succ, i64_w, i32_w]
                rfl
               refine pure_ (i := 7) (N := some 75) (v := ?_) (a' := ?_) #[true, true, true, true, true, true, true, true, false, false, false, false, false, false, false, false, false, false, false, false, false, false, false] rfl rfl (any_of HT_.out (by kernel_rfl)) (fun _ _ _ h => h) (Or.inl ⟨by rfl, ?_⟩) ?_ ?_
               rotate_left
               ·intro w'
                go_simp
                with_reducible rfl
               rotate_left
               ·simp only [Act.put, List.setIfInBounds_toArray, List.set_cons_zero, List.set_cons_succ, i64_w, i32_w]
                rfl
               refine pure_ (i := 8) (N := some 76) (v := ?_) (a' := ?_) #[true, true, true, true, true, true, true, true, true, false, false, false, false, false, false, false, false, false, false, false, false, false, false] rfl rfl (any_of HT_.out (by kernel_rfl)) (fun _ _ _ h => h) (Or.inl ⟨by rfl, ?_⟩) ?_ ?_
               rotate_left
               ·intro w'
                go_simp
                with_reducible rfl
               rotate_left
               ·simp only [Act.put, List.setIfInBounds_toArray, List.set_cons_zero, List.set_cons_succ, i64_w, i32_w]
                rfl
               refine take_ (i := 9) (N := some 77) (v := ?_) (a' := ?_) #[true, true, true, true, true, true, true, true, true, true, false, false, false, false, false, false, false, false, false, false, false, false, false] rfl rfl (take_ofW HT_.out HW_.out (by kernel_rfl)) (fun _ _ _ h => h) (Or.inl ⟨by rfl, ?_⟩) hHeld ?_ ?_
               rotate_left
               ·rintro w' ⟨s0, s1, s2, s3, s4, s5, s6, s7, s8, s9, s10, s11, s12, s13, s14, s15, s16, s17, s18, s19, s20, s21, s22, s23⟩
                go_simp
                with_reducible rfl
               rotate_left
               ·simp only [Act.put, List.setIfInBounds_toArray, List.set_cons_zero, List.set_cons_succ, i64_w, i32_w]
                rfl
               refine one_ (i := 10) (N := some 78) #[true, true, true, true, true, true, true, true, true, true, true, false, false, false, false, false, false, false, false, false, false, false, false] rfl rfl (one_of HT_.out (by kernel_rfl)) (by decide) (fun K hK => ?_)
               refine goes_ Tryd.func15 (by kernel_rfl) rfl #[.agg #[.string t291, .string t292, .int .i64 t293, .string t294, .int .i64 t295, .slice Ao147 y322.length co147]] (by rfl) rfl rfl (by (try simp only [List.map_toArray, List.map_cons, List.map_nil]); first | done | rfl | (simp only [List.length_drop, List.length_take]; rfl)) ?_
               with_reducible refine (frame_Stays.calls k t291 t292 t293 t294 t295 _ _ y322 false _ ?side1 ?side2 A24.out).mono ?_
               (case side1 => repeat (first | exact (Kd.R_reads' HO324.out).2.2 | (with_reducible refine Kd.C_alloc ?_ _) | (with_reducible refine Kd.C_drewN ?_ _) | (with_reducible refine Kd.C_drew ?_)))
               (case side2 => exact (Kd.R_reads' HO324.out).2.1)
               rintro e w153 ⟨rfl, hb⟩
               refine ⟨_, rfl, ?_⟩
               have n0_ := aM (Kd.R_below (by (with_reducible repeat (first | apply rA | apply rN | apply rD)); exact HO288.out) hb)
               have n1_ := aM (Kd.R_below (by (with_reducible repeat (first | apply rA | apply rN | apply rD)); exact HO298.out) hb)
               have n2_ := aM (Kd.R_below (by (with_reducible repeat (first | apply rA | apply rN | apply rD)); exact HO308.out) hb)
               have n3_ := aM (Kd.R_below (by (with_reducible repeat (first | apply rA | apply rN | apply rD)); exact HO315.out) hb)
               have n4_ := aM (Kd.R_below (by (with_reducible repeat (first | apply rA | apply rN | apply rD)); exact HO318.out) hb)
               have n5_ := aM (Kd.R_below (by (with_reducible repeat (first | apply rA | apply rN | apply rD)); exact HO324.out) hb)
               have n6_ := aM (blk_below (g := gb299) (o := .cells #[.string t291, .string t292, .int .i64 t293, .string t294, .int .i64 t295, .slice Ao99 t296.length co99] 25 (0, 0)) (by (with_reducible repeat (first | refine bN ?_ _ | refine bD ?_ | refine bA ?_ _)); exact BK299.out) hb)
               have n7_ := aM (blk_below (g := gb300) (o := .cells #[.string t291, .string t292, .int .i64 t293, .string t294, .int .i64 t295, .slice Ao130 y306.length co130] 25 (0, 0)) (by (with_reducible repeat (first | refine bN ?_ _ | refine bD ?_ | refine bA ?_ _)); exact BK300.out) hb)
               have n8_ := aM (blk_below (g := gb301) (o := .cells #[.string t291, .string t292, .int .i64 t293, .string t294, .int .i64 t295, .slice Ao141 y316.length co141] 25 (0, 0)) (by (with_reducible repeat (first | refine bN ?_ _ | refine bD ?_ | refine bA ?_ _)); exact BK301.out) hb)
               have n9_ := aM (blk_below (g := gb302) (o := .cells #[.string t291, .string t292, .int .i64 t293, .string t294, .int .i64 t295, .slice Ao147 y322.length co147] 25 (0, 0)) (by (with_reducible repeat (first | refine bN ?_ _ | refine bD ?_ | refine bA ?_ _)); exact BK302.out) hb)
               have n10_ := aM (below_step (by repeat (first | (with_reducible first | exact HB.out | apply lA | apply lN | apply lD | refine below_set ?_ GE299.out | refine below_set ?_ GE300.out | refine below_set ?_ GE301.out | refine below_set ?_ GE302.out) | exact HB.out)) hb)
               clear HO288
               clear HO298
               clear HO308
               clear HO315
               clear HO318
               clear HO324
               clear BK299
               clear BK300
               clear BK301
               clear BK302
               clear HB
               have HO288 := n0_
               have HO298 := n1_
               have HO308 := n2_
               have HO315 := n3_
               have HO318 := n4_
               have HO324 := n5_
               have BK299 := n6_
               have BK300 := n7_
               have BK301 := n8_
               have BK302 := n9_
               have HB := n10_
               clear n0_ n1_ n2_ n3_ n4_ n5_ n6_ n7_ n8_ n9_ n10_
               (try clear hb)
               (try clear hb2)
               (try clear hk)
               (try clear hi)
               refine hK.out _ _ ⟨(blk_cell BK300.out 0).trans rfl, (blk_cell BK300.out 1).trans rfl, (blk_cell BK300.out 2).trans rfl, (blk_cell BK300.out 3).trans rfl, (blk_cell BK300.out 4).trans rfl, (blk_cell BK300.out 5).trans rfl, (blk_cell BK301.out 0).trans rfl, (blk_cell BK301.out 1).trans rfl, (blk_cell BK301.out 2).trans rfl, (blk_cell BK301.out 3).trans rfl, (blk_cell BK301.out 4).trans rfl, (blk_cell BK301.out 5).trans rfl, (blk_cell BK302.out 0).trans rfl, (blk_cell BK302.out 1).trans rfl, (blk_cell BK302.out 2).trans rfl, (blk_cell BK302.out 3).trans rfl, (blk_cell BK302.out 4).trans rfl, (blk_cell BK302.out 5).trans rfl, (blk_cell BK299.out 0).trans rfl, (blk_cell BK299.out 1).trans rfl, (blk_cell BK299.out 2).trans rfl, (blk_cell BK299.out 3).trans rfl, (blk_cell BK299.out 4).trans rfl, (blk_cell BK299.out 5).trans rfl⟩ (fun hHeld => ?_)
               clear hK K
               refine norm_ (a' := ?_) ?_ ?_
               rotate_left
               ·show Act.put _ (some 78) _ = _
                simp only [Act.put, List.setIfInBounds_toArray, List.set_cons_zero, List.set_cons_succ, i64_w, i32_w]
                rfl
               refine pure_ (i := 11) (N := some 79) (v := ?_) (a' := ?_) #[true, true, true, true, true, true, true, true, true, true, true, true, false, false, false, false, false, false, false, false, false, false, false] rfl rfl (any_of HT_.out (by kernel_rfl)) (fun _ _ _ h => h) (Or.inl ⟨by rfl, ?_⟩) ?_ ?_
               rotate_left
               ·intro w'
                go_simp
                with_reducible rfl
               rotate_left
               ·simp only [Act.put, List.setIfInBounds_toArray, List.set_cons_zero, List.set_cons_succ, i64_w, i32_w]
                rfl
               refine pure_ (i := 12) (N := some 80) (v := ?_) (a' := ?_) #[true, true, true, true, true, true, true, true, true, true, true, true, true, false, false, false, false, false, false, false, false, false, false] rfl rfl (any_of HT_.out (by kernel_rfl)) (fun _ _ _ h => h) (Or.inl ⟨by rfl, ?_⟩) ?_ ?_
               rotate_left
               ·intro w'
                go_simp
                with_reducible rfl
               rotate_left
               ·simp only [Act.put, List.setIfInBounds_toArray, List.set_cons_zero, List.set_cons_succ, i64_w, i32_w]
                rfl
               refine pure_ (i := 13) (N := some 81) (v := ?_) (a' := ?_) #[true, true, true, true, true, true, true, true, true, true, true, true, true, true, false, false, false, false, false, false, false, false, false] rfl rfl (any_of HT_.out (by kernel_rfl)) (fun _ _ _ h => h) (Or.inl ⟨by rfl, ?_⟩) ?_ ?_
               rotate_left
               ·intro w'
                go_simp
                with_reducible rfl
               rotate_left
               ·simp only [Act.put, List.setIfInBounds_toArray, List.set_cons_zero, List.set_cons_succ, i64_w, i32_w]
                rfl
               refine pure_ (i := 14) (N := some 82) (v := ?_) (a' := ?_) #[true, true, true, true, true, true, true, true, true, true, true, true, true, true, true, false, false, false, false, false, false, false, false] rfl rfl (any_of HT_.out (by kernel_rfl)) (fun _ _ _ h => h) (Or.inl ⟨by rfl, ?_⟩) ?_ ?_
               rotate_left
               ·intro w'
                go_simp
                with_reducible rfl
               rotate_left
               ·simp only [Act.put, List.setIfInBounds_toArray, List.set_cons_zero, List.set_cons_succ, i64_w, i32_w]
                rfl
               refine take_ (i := 15) (N := some 83) (v := ?_) (a' := ?_) #[true, true, true, true, true, true, true, true, true, true, true, true, true, true, true, true, false, false, false, false, false, false, false] rfl rfl (take_ofW HT_.out HW_.out (by kernel_rfl)) (fun _ _ _ h => h) (Or.inl ⟨by rfl, ?_⟩) hHeld ?_ ?_
               rotate_left
               ·rintro w' ⟨s0, s1, s2, s3, s4, s5, s6, s7, s8, s9, s10, s11, s12, s13, s14, s15, s16, s17, s18, s19, s20, s21, s22, s23⟩
                go_simp
                with_reducible rfl
               rotate_left
               ·simp only [Act.put, List.setIfInBounds_toArray, List.set_cons_zero, List.set_cons_succ, i64_w, i32_w]
                rfl
               refine pure_ (i := 16) (N := some 84) (v := ?_) (a' := ?_) #[true, true, true, true, true, true, true, true, true, true, true, true, true, true, true, true, true, false, false, false, false, false, false] rfl rfl (any_of HT_.out (by kernel_rfl)) (fun _ _ _ h => h) (Or.inl ⟨by rfl, ?_⟩) ?_ ?_
               rotate_left
               ·intro w'
                go_simp
                with_reducible rfl
               rotate_left
               ·simp only [Act.put, List.setIfInBounds_toArray, List.set_cons_zero, List.set_cons_succ, i64_w, i32_w]
                rfl
               refine pure_ (i := 17) (N := some 85) (v := ?_) (a' := ?_) #[true, true, true, true, true, true, true, true, true, true, true, true, true, true, true, true, true, true, false, false, false, false, false] rfl rfl (any_of HT_.out (by kernel_rfl)) (fun _ _ _ h => h) (Or.inl ⟨by rfl, ?_⟩) ?_ ?_
               rotate_left
               ·intro w'
                go_simp
                with_reducible rfl
               rotate_left
               ·simp only [Act.put, List.setIfInBounds_toArray, List.set_cons_zero, List.set_cons_succ, i64_w, i32_w]
                rfl
               refine pure_ (i := 18) (N := some 86) (v := ?_) (a' := ?_) #[true, true, true, true, true, true, true, true, true, true, true, true, true, true, true, true, true, true, true, false, false, false, false] rfl rfl (any_of HT_.out (by kernel_rfl)) (fun _ _ _ h => h) (Or.inl ⟨by rfl, ?_⟩) ?_ ?_
               rotate_left
               ·intro w'
                go_simp
                with_reducible rfl
               rotate_left
               ·simp only [Act.put, List.setIfInBounds_toArray, List.set_cons_zero, List.set_cons_succ, i64_w, i32_w]
                rfl
               refine one_ (i := 19) (N := some 87) #[true, true, true, true, true, true, true, true, true, true, true, true, true, true, true, true, true, true, true, true, false, false, false] rfl rfl (one_of HT_.out (by kernel_rfl)) (by decide) (fun K hK => ?_)
               refine goes_ Tryd.func15 (by kernel_rfl) rfl #[.agg #[.string (⟨#[]⟩ : ByteArray), .string (⟨#[]⟩ : ByteArray), .int .i64 0, .string (⟨#[]⟩ : ByteArray), .int .i64 1, .slice none 0 0]] (by rfl) rfl rfl (by (try simp only [List.map_toArray, List.map_cons, List.map_nil]); first | done | rfl | (simp only [List.length_drop, List.length_take]; rfl)) ?_
               refine (frame_Stays.calls k (⟨#[]⟩ : ByteArray) (⟨#[]⟩ : ByteArray) 0 (⟨#[]⟩ : ByteArray) 1 _ _ ([] : List (S32)) t328 _ ?side1 ?side2 A90.out).mono ?_
               (case side1 => exact Kd.C_nil _ _)
               (case side2 => exact Nat.le_refl _)
               rintro e w154 ⟨rfl, hb⟩
               refine ⟨_, rfl, ?_⟩
               have n0_ := aM (Kd.R_below (by (with_reducible repeat (first | apply rA | apply rN | apply rD)); exact HO288.out) hb)
               have n1_ := aM (Kd.R_below (by (with_reducible repeat (first | apply rA | apply rN | apply rD)); exact HO298.out) hb)
               have n2_ := aM (Kd.R_below (by (with_reducible repeat (first | apply rA | apply rN | apply rD)); exact HO308.out) hb)
               have n3_ := aM (Kd.R_below (by (with_reducible repeat (first | apply rA | apply rN | apply rD)); exact HO315.out) hb)
               have n4_ := aM (Kd.R_below (by (with_reducible repeat (first | apply rA | apply rN | apply rD)); exact HO318.out) hb)
               have n5_ := aM (Kd.R_below (by (with_reducible repeat (first | apply rA | apply rN | apply rD)); exact HO324.out) hb)
               have n6_ := aM (blk_below (g := gb299) (o := .cells #[.string t291, .string t292, .int .i64 t293, .string t294, .int .i64 t295, .slice Ao99 t296.length co99] 25 (0, 0)) (by (with_reducible repeat (first | refine bN ?_ _ | refine bD ?_ | refine bA ?_ _)); exact BK299.out) hb)
               have n7_ := aM (blk_below (g := gb300) (o := .cells #[.string t291, .string t292, .int .i64 t293, .string t294, .int .i64 t295, .slice Ao130 y306.length co130] 25 (0, 0)) (by (with_reducible repeat (first | refine bN ?_ _ | refine bD ?_ | refine bA ?_ _)); exact BK300.out) hb)
               have n8_ := aM (blk_below (g := gb301) (o := .cells #[.string t291, .string t292, .int .i64 t293, .string t294, .int .i64 t295, .slice Ao141 y316.length co141] 25 (0, 0)) (by (with_reducible repeat (first | refine bN ?_ _ | refine bD ?_ | refine bA ?_ _)); exact BK301.out) hb)
               have n9_ := aM (blk_below (g := gb302) (o := .cells #[.string t291, .string t292, .int .i64 t293, .string t294, .int .i64 t295, .slice Ao147 y322.length co147] 25 (0, 0)) (by (with_reducible repeat (first | refine bN ?_ _ | refine bD ?_ | refine bA ?_ _)); exact BK302.out) hb)
               have n10_ := aM (below_step (by repeat (first | (with_reducible first | exact HB.out | apply lA | apply lN | apply lD | refine below_set ?_ GE299.out | refine below_set ?_ GE300.out | refine below_set ?_ GE301.out | refine below_set ?_ GE302.out) | exact HB.out)) hb)
               clear HO288
               clear HO298
               clear HO308
               clear HO315
               clear HO318
               clear HO324
               clear BK299
               clear BK300
               clear BK301
               clear BK302
               clear HB
               have HO288 := n0_
               have HO298 := n1_
               have HO308 := n2_
               have HO315 := n3_
               have HO318 := n4_
               have HO324 := n5_
               have BK299 := n6_
               have BK300 := n7_
               have BK301 := n8_
               have BK302 := n9_
               have HB := n10_
               clear n0_ n1_ n2_ n3_ n4_ n5_ n6_ n7_ n8_ n9_ n10_
               (try clear hb)
               (try clear hb2)
               (try clear hk)
               (try clear hi)
               refine hK.out _ _ ⟨(blk_cell BK300.out 0).trans rfl, (blk_cell BK300.out 1).trans rfl, (blk_cell BK300.out 2).trans rfl, (blk_cell BK300.out 3).trans rfl, (blk_cell BK300.out 4).trans rfl, (blk_cell BK300.out 5).trans rfl, (blk_cell BK301.out 0).trans rfl, (blk_cell BK301.out 1).trans rfl, (blk_cell BK301.out 2).trans rfl, (blk_cell BK301.out 3).trans rfl, (blk_cell BK301.out 4).trans rfl, (blk_cell BK301.out 5).trans rfl, (blk_cell BK302.out 0).trans rfl, (blk_cell BK302.out 1).trans rfl, (blk_cell BK302.out 2).trans rfl, (blk_cell BK302.out 3).trans rfl, (blk_cell BK302.out 4).trans rfl, (blk_cell BK302.out 5).trans rfl, (blk_cell BK299.out 0).trans rfl, (blk_cell BK299.out 1).trans rfl, (blk_cell BK299.out 2).trans rfl, (blk_cell BK299.out 3).trans rfl, (blk_cell BK299.out 4).trans rfl, (blk_cell BK299.out 5).trans rfl⟩ (fun hHeld => ?_)
               clear hK K
               refine norm_ (a' := ?_) ?_ ?_
               rotate_left
               ·show Act.put _ (some 87) _ = _
                simp only [Act.put, List.setIfInBounds_toArray, List.set_cons_zero, List.set_cons_succ, i64_w, i32_w]
                rfl
               refine pure_ (i := 20) (N := some 88) (v := ?_) (a' := ?_) #[true, true, true, true, true, true, true, true, true, true, true, true, true, true, true, true, true, true, true, true, true, false, false] rfl rfl (any_of HT_.out (by kernel_rfl)) (fun _ _ _ h => h) (Or.inl ⟨by rfl, ?_⟩) ?_ ?_
               rotate_left
               ·intro w'
                go_simp
                with_reducible rfl
               rotate_left
               ·simp only [Act.put, List.setIfInBounds_toArray, List.set_cons_zero, List.set_cons_succ, i64_w, i32_w]
                rfl
               refine pure_ (i := 21) (N := some 89) (v := ?_) (a' := ?_) #[true, true, true, true, true, true, true, true, true, true, true, true, true, true, true, true, true, true, true, true, true, true, false] rfl rfl (any_of HT_.out (by kernel_rfl)) (fun _ _ _ h => h) (Or.inl ⟨by rfl, ?_⟩) ?_ ?_
               rotate_left
               ·intro w'
                go_simp
                with_reducible rfl
               rotate_left
               ·simp only [Act.put, List.setIfInBounds_toArray, List.set_cons_zero, List.set_cons_succ, i64_w, i32_w]
                rfl
               refine pure_ (i := 22) (N := some 8) (v := ?_) (a' := ?_) #[true, true, true, true, true, true, true, true, true, true, true, true, true, true, true, true, true, true, true, true, true, true, true] rfl rfl (any_of HT_.out (by kernel_rfl)) (fun _ _ _ h => h) (Or.inl ⟨by rfl, ?_⟩) ?_ ?_
               rotate_left
               ·intro w'
                go_simp
                with_reducible rfl
               rotate_left
               ·simp only [Act.put, List.setIfInBounds_toArray, List.set_cons_zero, List.set_cons_succ, i64_w, i32_w]
                rfl
               refine done_ (done_of HT_.out (by kernel_rfl)) ?_
               try go_wp2
               go_ret
               exact ⟨by first | rfl | (simp [errW_none, errW_some] <;> rfl) | (simp only [← hji7, ← hji10]; first | rfl | (simp [errW_none, errW_some] <;> rfl)) | (simp [*, errW_none, errW_some] <;> rfl), by repeat (first | (with_reducible first | exact HB.out | apply lA | apply lN | apply lD | refine below_set ?_ GE299.out | refine below_set ?_ GE300.out | refine below_set ?_ GE301.out | refine below_set ?_ GE302.out) | exact HB.out)⟩
            ·rw [if_neg c23] at H
             have c23b0 : (t325 == t326) = false := by simpa using c23
             (try (have c23b1 : decide (t325 = t326) = false := by simpa using c23))
             (try (have c23b2 : (t325 == t326) = false := by simpa using c23))
             (try (have c23b3 : ¬ (t325 = t326) := by simpa using c23))
             clear c23
             exact absurd H (by simp)
           ·rw [if_neg c20] at H
            exact absurd H (by simp)
          ·rw [if_neg c19] at H
           exact absurd H (by simp)
         ·rw [if_neg c17] at H
          exact absurd H (by simp)
        ·rw [if_neg c16] at H
         exact absurd H (by simp)
       ·rw [if_neg c15] at H
        exact absurd H (by simp)
      ·rw [if_neg c14] at H
       exact absurd H (by simp)
     ·rw [if_neg c12] at H
      exact absurd H (by simp)
    ·rw [if_neg c11] at H
     exact absurd H (by simp)
   ·rw [if_neg c9] at H
    exact absurd H (by simp)
  ·rw [if_neg c8] at H
   exact absurd H (by simp)
 ·replace c6 := Bool.eq_false_iff.mpr c6
  subst c6
  have H1 : (none) = some r := by rw [if_neg (show ¬ (false = true) by decide)] at H; exact H
  clear H
  have H := H1
  clear H1
  exact absurd H (by simp)

end Go.Proofs.YtljppmpigijgaaaDoor.P
