/- Printed by a program of the session out of the translation: plain Lean functions, each with the contract that the Go function computes it. -/
import Derived.Test.YthmpfncidpjnjaaDoorPx0
import Derived.Test.YthmpfncidpjnjaaDoorPx4
import Derived.Test.YthmpfncidpjnjaaDoorPx5
import Derived.Test.YthmpfncidpjnjaaDoorPx6
import Derived.Test.YthmpfncidpjnjaaDoorHK
import Derived.Test.YthmpfncidpjnjaaDoorHZA
import Derived.Test.YthmpfncidpjnjaaDoorHV2
namespace Go.Proofs.YthmpfncidpjnjaaDoor.P
open Go.RowKit Go.Proofs.YthmpfncidpjnjaaDoorW.PrintWords Go.Proofs.YthmpfncidpjnjaaDoorW.PrintLast Go.Proofs.YthmpfncidpjnjaaDoorW.PrintMore
attribute [local go_sem] max2_int min2_int max_two min_two max_three min_three max_four min_four   -- for this text's walks alone
set_option linter.unusedVariables false
set_option linter.unusedSimpArgs false

/-! ### lockagelaw15_ForwardTwice: function 6 -/
def lockagelaw15_ForwardTwice.j0 : Nat → Bool → List ByteArray → List ByteArray → Bool → ByteArray → ByteArray → Int → ByteArray → Int → List (S28) → ByteArray → ByteArray → ByteArray → Int → ByteArray → Int → List (S28) → ByteArray → ByteArray → ByteArray → Int → ByteArray → Int → List (S28) → ByteArray → ByteArray → ByteArray → Int → ByteArray → Int → List (S28) → ByteArray → Option (Bool)
  | 0, _, _, _, _, _, _, _, _, _, _, _, _, _, _, _, _, _, _, _, _, _, _, _, _, _, _, _, _, _, _, _, _ => none
  | k + 1, x7, x11, x12, x55, x471000, x471001, x471002, x471003, x471004, x471005, x471006, x481000, x481001, x481002, x481003, x481004, x481005, x481006, x491000, x491001, x491002, x491003, x491004, x491005, x491006, x507000, x507001, x507002, x507003, x507004, x507005, x507006 => if x55 = true then (none) else ((some (([(⟨#[120, 45, 102, 111, 114, 119, 97, 114, 100, 101, 100, 45, 102, 111, 114]⟩ : ByteArray)] : List ByteArray) : List ByteArray)).bind fun y507 => (if x7 = true then (if 0 < (x12.length : Int) then (if 0 < (x11.length : Int) then (if (rdOf ByteArray.empty x11 0).size + 2 ≤ 9223372036854775807 then (if 0 < (x507005.length : Int) then (if ((rdOf ByteArray.empty x11 0) ++ (⟨#[44, 32]⟩ : ByteArray)).size + ((rd_T28 x507005 0).f1).size ≤ 9223372036854775807 then (if (rdOf ByteArray.empty x12 0).toList = (((rdOf ByteArray.empty x11 0) ++ (⟨#[44, 32]⟩ : ByteArray)) ++ ((rd_T28 x507005 0).f1)).toList then ((lockageref05_Drop.f k x481005 y507).bind fun t513 => ((lockageref05_Drop.f k x491005 y507).bind fun t516 => ((lockageref05_Same.f k t513 t516).bind fun t519 => (if t519 = true then (if x491006.toList = ([120] : List UInt8) then (if x491000.toList = x471000.toList then (some (x491001.toList == x471001.toList)) else (none)) else (none)) else (none))))) else (none)) else (none)) else (none)) else (none)) else (none)) else (none)) else (none)))
def lockagelaw15_ForwardTwice.f (k : Nat) (l0 : List Int) (a1 : Int) (a2 : Int) : Option (Bool) := (lockagelaw15_awake.f k).bind fun t461 => (if t461 = true then ((lockagelaw06_Made.f k l0 false).bind fun bt462 => ((forward_Request.f k bt462.1 bt462.2.1 bt462.2.2.1 bt462.2.2.2.1 bt462.2.2.2.2.1 bt462.2.2.2.2.2 (⟨#[120]⟩ : ByteArray) (wrap64 (a1))).bind fun bt471 => ((forward_Request.f k bt471.1 bt471.2.1 bt471.2.2.1 bt471.2.2.2.1 bt471.2.2.2.2.1 bt471.2.2.2.2.2.1 bt471.2.2.2.2.2.2 (wrap64 (a2))).bind fun bt481 => ((lockageref05_Get.f k bt471.2.2.2.2.2.1 (⟨#[120, 45, 102, 111, 114, 119, 97, 114, 100, 101, 100, 45, 102, 111, 114]⟩ : ByteArray)).bind fun t491 => ((lockageref05_Get.f k bt481.2.2.2.2.2.1 (⟨#[120, 45, 102, 111, 114, 119, 97, 114, 100, 101, 100, 45, 102, 111, 114]⟩ : ByteArray)).bind fun t494 => ((forward_Request.f k (⟨#[]⟩ : ByteArray) (⟨#[]⟩ : ByteArray) 0 (⟨#[]⟩ : ByteArray) 0 ([] : List (S28)) (⟨#[]⟩ : ByteArray) (wrap64 (a2))).bind fun bt497 => (if (t491.length : Int) = 1 then (if (t494.length : Int) = 1 then (lockagelaw15_ForwardTwice.j0 k t461 t491 t494 ((bt497.2.2.2.2.2.1.length : Int) != 1) bt462.1 bt462.2.1 bt462.2.2.1 bt462.2.2.2.1 bt462.2.2.2.2.1 bt462.2.2.2.2.2 (⟨#[120]⟩ : ByteArray) bt471.1 bt471.2.1 bt471.2.2.1 bt471.2.2.2.1 bt471.2.2.2.2.1 bt471.2.2.2.2.2.1 bt471.2.2.2.2.2.2 bt481.1 bt481.2.1 bt481.2.2.1 bt481.2.2.2.1 bt481.2.2.2.2.1 bt481.2.2.2.2.2.1 bt481.2.2.2.2.2.2 bt497.1 bt497.2.1 bt497.2.2.1 bt497.2.2.2.1 bt497.2.2.2.2.1 bt497.2.2.2.2.2.1 bt497.2.2.2.2.2.2) else (lockagelaw15_ForwardTwice.j0 k t461 t491 t494 true bt462.1 bt462.2.1 bt462.2.2.1 bt462.2.2.2.1 bt462.2.2.2.2.1 bt462.2.2.2.2.2 (⟨#[120]⟩ : ByteArray) bt471.1 bt471.2.1 bt471.2.2.1 bt471.2.2.2.1 bt471.2.2.2.2.1 bt471.2.2.2.2.2.1 bt471.2.2.2.2.2.2 bt481.1 bt481.2.1 bt481.2.2.1 bt481.2.2.2.1 bt481.2.2.2.2.1 bt481.2.2.2.2.2.1 bt481.2.2.2.2.2.2 bt497.1 bt497.2.1 bt497.2.2.1 bt497.2.2.2.1 bt497.2.2.2.2.1 bt497.2.2.2.2.2.1 bt497.2.2.2.2.2.2)) else (lockagelaw15_ForwardTwice.j0 k t461 t491 t494 true bt462.1 bt462.2.1 bt462.2.2.1 bt462.2.2.2.1 bt462.2.2.2.2.1 bt462.2.2.2.2.2 (⟨#[120]⟩ : ByteArray) bt471.1 bt471.2.1 bt471.2.2.1 bt471.2.2.2.1 bt471.2.2.2.2.1 bt471.2.2.2.2.2.1 bt471.2.2.2.2.2.2 bt481.1 bt481.2.1 bt481.2.2.1 bt481.2.2.2.1 bt481.2.2.2.2.1 bt481.2.2.2.2.2.1 bt481.2.2.2.2.2.2 bt497.1 bt497.2.1 bt497.2.2.1 bt497.2.2.2.1 bt497.2.2.2.2.1 bt497.2.2.2.2.2.1 bt497.2.2.2.2.2.2)))))))) else (none))
theorem lockagelaw15_ForwardTwice.mono_l : ∀ k, (∀ y0 y1 y2 y3 y4 y5 y6 y7 y8 y9 y10 y11 y12 y13 y14 y15 y16 y17 y18 y19 y20 y21 y22 y23 y24 y25 y26 y27 y28 y29 y30 y31, LeO (lockagelaw15_ForwardTwice.j0 k y0 y1 y2 y3 y4 y5 y6 y7 y8 y9 y10 y11 y12 y13 y14 y15 y16 y17 y18 y19 y20 y21 y22 y23 y24 y25 y26 y27 y28 y29 y30 y31) (lockagelaw15_ForwardTwice.j0 (k + 1) y0 y1 y2 y3 y4 y5 y6 y7 y8 y9 y10 y11 y12 y13 y14 y15 y16 y17 y18 y19 y20 y21 y22 y23 y24 y25 y26 y27 y28 y29 y30 y31))
  | 0 => fun _ _ _ _ _ _ _ _ _ _ _ _ _ _ _ _ _ _ _ _ _ _ _ _ _ _ _ _ _ _ _ _ r h => by simp [lockagelaw15_ForwardTwice.j0] at h
  | k + 1 => by
    have ih0 := lockagelaw15_ForwardTwice.mono_l k
    · intro y0 y1 y2 y3 y4 y5 y6 y7 y8 y9 y10 y11 y12 y13 y14 y15 y16 y17 y18 y19 y20 y21 y22 y23 y24 y25 y26 y27 y28 y29 y30 y31
      unfold lockagelaw15_ForwardTwice.j0
      repeat' first
      | (with_reducible exact ih0 _ _ _ _ _ _ _ _ _ _ _ _ _ _ _ _ _ _ _ _ _ _ _ _ _ _ _ _ _ _ _ _)
      | (with_reducible exact forward_Request.mono _ _ _ _ _ _ _ _ _)
      | (with_reducible exact lockagelaw06_Made.mono _ _ _)
      | (with_reducible exact lockagelaw15_awake.mono _)
      | (with_reducible exact lockageref05_Drop.mono _ _ _)
      | (with_reducible exact lockageref05_Get.mono _ _ _)
      | (with_reducible exact lockageref05_Same.mono _ _ _)
      | (with_reducible exact LeO.refl _)
      | (with_reducible exact LeO.none _)
      | (with_reducible refine LeO.ite ?_ ?_)
      | (with_reducible refine LeO.bind ?_ (fun _ => ?_))
      | exact ih0 _ _ _ _ _ _ _ _ _ _ _ _ _ _ _ _ _ _ _ _ _ _ _ _ _ _ _ _ _ _ _ _
      | exact forward_Request.mono _ _ _ _ _ _ _ _ _
      | exact lockagelaw06_Made.mono _ _ _
      | exact lockagelaw15_awake.mono _
      | exact lockageref05_Drop.mono _ _ _
      | exact lockageref05_Get.mono _ _ _
      | exact lockageref05_Same.mono _ _ _
      | exact LeO.none _
      | refine LeO.ite ?_ ?_
      | refine LeO.bind ?_ (fun _ => ?_)
theorem lockagelaw15_ForwardTwice.mono : ∀ a0 a1 a2 k, LeO (lockagelaw15_ForwardTwice.f k a0 a1 a2) (lockagelaw15_ForwardTwice.f (k + 1) a0 a1 a2) := by
  intro a0 a1 a2 k
  have ih0 := lockagelaw15_ForwardTwice.mono_l k
  unfold lockagelaw15_ForwardTwice.f
  repeat' first
      | (with_reducible exact ih0 _ _ _ _ _ _ _ _ _ _ _ _ _ _ _ _ _ _ _ _ _ _ _ _ _ _ _ _ _ _ _ _)
      | (with_reducible exact forward_Request.mono _ _ _ _ _ _ _ _ _)
      | (with_reducible exact lockagelaw06_Made.mono _ _ _)
      | (with_reducible exact lockagelaw15_awake.mono _)
      | (with_reducible exact lockageref05_Drop.mono _ _ _)
      | (with_reducible exact lockageref05_Get.mono _ _ _)
      | (with_reducible exact lockageref05_Same.mono _ _ _)
      | (with_reducible exact LeO.refl _)
      | (with_reducible exact LeO.none _)
      | (with_reducible refine LeO.ite ?_ ?_)
      | (with_reducible refine LeO.bind ?_ (fun _ => ?_))
      | exact ih0 _ _ _ _ _ _ _ _ _ _ _ _ _ _ _ _ _ _ _ _ _ _ _ _ _ _ _ _ _ _ _ _
      | exact forward_Request.mono _ _ _ _ _ _ _ _ _
      | exact lockagelaw06_Made.mono _ _ _
      | exact lockagelaw15_awake.mono _
      | exact lockageref05_Drop.mono _ _ _
      | exact lockageref05_Get.mono _ _ _
      | exact lockageref05_Same.mono _ _ _
      | exact LeO.none _
      | refine LeO.ite ?_ ?_
      | refine LeO.bind ?_ (fun _ => ?_)
def lockagelaw15_ForwardTwice.T7 : Bool × List (List Nat × List Nat) := (true, [([], []), ([0], [0]), ([1], [1]), ([2], [2]), ([], []), ([4], [4]), ([5], [5]), ([6, 3], [6]), ([3, 7, 0, 1, 2, 3], [3]), ([7, 8, 0, 1, 2, 3, 4, 5, 6, 7, 8], [7])])
def lockagelaw15_ForwardTwice.B7 : List Nat := [0, 1, 3, 7, 0, 16, 48, 127, 255, 511]
theorem lockagelaw15_ForwardTwice.tab7 : rtab .any (opsOf Tryd.f6 7) = lockagelaw15_ForwardTwice.T7 := by kernel_rfl
theorem lockagelaw15_ForwardTwice.bits7 : waitsOk lockagelaw15_ForwardTwice.T7.2 lockagelaw15_ForwardTwice.B7 = true := by kernel_rfl
def lockagelaw15_ForwardTwice.T12 : Bool × List (List Nat × List Nat) := (true, [([], []), ([0], [0]), ([1], [1]), ([2, 1], [1, 2]), ([3, 1], [1, 3]), ([1], [1]), ([5, 1], [1, 5]), ([6, 1], [1, 6]), ([7, 1], [1, 7]), ([1], [1]), ([9, 1], [1, 9]), ([10, 1], [1, 10]), ([11, 1], [1, 11]), ([12, 1], [1, 12]), ([13, 1], [1, 13]), ([8, 14, 1], [1, 8, 14]), ([4, 15, 1], [1, 4, 15]), ([1, 16], [1, 16]), ([17, 1], [17]), ([18], [18]), ([19, 18], [18, 19]), ([20, 18], [18, 20]), ([18], [18]), ([21, 22, 18, 18], [18, 21, 22]), ([18], [18]), ([24, 18], [18, 24]), ([25, 18], [18, 25]), ([18], [18]), ([26, 27, 23, 18], [18, 26, 27]), ([23, 28, 28, 18], [18, 23, 28]), ([18, 29], [18, 29]), ([30, 29], [30]), ([31], [31]), ([32, 31], [31, 32]), ([33, 31], [31, 33]), ([31, 34], [31, 34]), ([35, 31], [35]), ([36], [36]), ([37, 36], [36, 37]), ([38, 36], [36, 38]), ([36], [36]), ([40, 36], [36, 40]), ([41, 36], [36, 41]), ([39, 42, 36], [36, 39, 42]), ([36, 43], [36, 43]), ([44, 36], [44]), ([45], [45]), ([46, 45], [45, 46]), ([47, 45], [45, 47]), ([45], [45]), ([49, 45], [45, 49]), ([50, 45], [45, 50]), ([48, 51, 45], [45, 48, 51]), ([45, 52], [45, 52]), ([53, 45, 0, 1, 2, 3, 4, 5, 6, 7, 8, 9, 10, 11, 12, 13, 14, 15, 16, 17, 18, 19, 20, 21, 22, 23, 24, 25, 26, 27, 28, 29, 30, 31, 32, 33, 34, 35, 36, 37, 38, 39, 40, 41, 42, 43, 44, 45, 46, 47, 48, 49, 50, 51, 52, 53], [53])])
def lockagelaw15_ForwardTwice.B12 : List Nat := [0, 1, 3, 7, 15, 3, 35, 99, 227, 3, 515, 1539, 3587, 7683, 15875, 32739, 65535, 131071, 262143, 524287, 1048575, 2097151, 524287, 8388607, 524287, 17301503, 50855935, 524287, 268435455, 536870911, 1073741823, 2147483647, 4294967295, 8589934591, 17179869183, 34359738367, 68719476735, 137438953471, 274877906943, 549755813887, 137438953471, 1236950581247, 3435973836799, 8796093022207, 17592186044415, 35184372088831, 70368744177663, 140737488355327, 281474976710655, 70368744177663, 633318697598975, 1759218604441599, 4503599627370495, 9007199254740991, 18014398509481983]
theorem lockagelaw15_ForwardTwice.tab12 : rtab .any (opsOf Tryd.f6 12) = lockagelaw15_ForwardTwice.T12 := by kernel_rfl
theorem lockagelaw15_ForwardTwice.bits12 : waitsOk lockagelaw15_ForwardTwice.T12.2 lockagelaw15_ForwardTwice.B12 = true := by kernel_rfl
set_option maxHeartbeats 8000000 in
set_option maxRecDepth 100000 in
theorem lockagelaw15_ForwardTwice.calls (k : Nat) (A0 : Option Addr) (c0 : Nat) (l0 : List Int) (a1 : Int) (a2 : Int) (r : Bool) (w : World) (hr0 : Kd.C (Kd.int .u8) w A0 l0.length l0) (hc0 : l0.length ≤ c0) (hG_ : H.GlobOk w) (h : lockagelaw15_ForwardTwice.f k l0 a1 a2 = some r) :
    Calls Tryd.prog 6 #[.slice A0 l0.length c0, .int .u8 a1, .int .u8 a2] w fun e w' => e = .returned (.bool r) ∧ Below w.heap.size w w' := by
  have HG_ := Aside0.mk hG_
  clear hG_
  have hu26 := Tryd.underlying26
  have HR0 := Aside0.mk hr0
  have HC0 := Aside0.mk hc0
  clear hr0 hc0
  have HB := Aside0.mk (Below.refl w.heap.size w)
  have H : ((lockagelaw15_awake.f k).bind fun t461 => (if t461 = true then ((lockagelaw06_Made.f k l0 false).bind fun bt462 => ((forward_Request.f k bt462.1 bt462.2.1 bt462.2.2.1 bt462.2.2.2.1 bt462.2.2.2.2.1 bt462.2.2.2.2.2 (⟨#[120]⟩ : ByteArray) (wrap64 (a1))).bind fun bt471 => ((forward_Request.f k bt471.1 bt471.2.1 bt471.2.2.1 bt471.2.2.2.1 bt471.2.2.2.2.1 bt471.2.2.2.2.2.1 bt471.2.2.2.2.2.2 (wrap64 (a2))).bind fun bt481 => ((lockageref05_Get.f k bt471.2.2.2.2.2.1 (⟨#[120, 45, 102, 111, 114, 119, 97, 114, 100, 101, 100, 45, 102, 111, 114]⟩ : ByteArray)).bind fun t491 => ((lockageref05_Get.f k bt481.2.2.2.2.2.1 (⟨#[120, 45, 102, 111, 114, 119, 97, 114, 100, 101, 100, 45, 102, 111, 114]⟩ : ByteArray)).bind fun t494 => ((forward_Request.f k (⟨#[]⟩ : ByteArray) (⟨#[]⟩ : ByteArray) 0 (⟨#[]⟩ : ByteArray) 0 ([] : List (S28)) (⟨#[]⟩ : ByteArray) (wrap64 (a2))).bind fun bt497 => (if (t491.length : Int) = 1 then (if (t494.length : Int) = 1 then (lockagelaw15_ForwardTwice.j0 k t461 t491 t494 ((bt497.2.2.2.2.2.1.length : Int) != 1) bt462.1 bt462.2.1 bt462.2.2.1 bt462.2.2.2.1 bt462.2.2.2.2.1 bt462.2.2.2.2.2 (⟨#[120]⟩ : ByteArray) bt471.1 bt471.2.1 bt471.2.2.1 bt471.2.2.2.1 bt471.2.2.2.2.1 bt471.2.2.2.2.2.1 bt471.2.2.2.2.2.2 bt481.1 bt481.2.1 bt481.2.2.1 bt481.2.2.2.1 bt481.2.2.2.2.1 bt481.2.2.2.2.2.1 bt481.2.2.2.2.2.2 bt497.1 bt497.2.1 bt497.2.2.1 bt497.2.2.2.1 bt497.2.2.2.2.1 bt497.2.2.2.2.2.1 bt497.2.2.2.2.2.2) else (lockagelaw15_ForwardTwice.j0 k t461 t491 t494 true bt462.1 bt462.2.1 bt462.2.2.1 bt462.2.2.2.1 bt462.2.2.2.2.1 bt462.2.2.2.2.2 (⟨#[120]⟩ : ByteArray) bt471.1 bt471.2.1 bt471.2.2.1 bt471.2.2.2.1 bt471.2.2.2.2.1 bt471.2.2.2.2.2.1 bt471.2.2.2.2.2.2 bt481.1 bt481.2.1 bt481.2.2.1 bt481.2.2.2.1 bt481.2.2.2.2.1 bt481.2.2.2.2.2.1 bt481.2.2.2.2.2.2 bt497.1 bt497.2.1 bt497.2.2.1 bt497.2.2.2.1 bt497.2.2.2.2.1 bt497.2.2.2.2.2.1 bt497.2.2.2.2.2.2)) else (lockagelaw15_ForwardTwice.j0 k t461 t491 t494 true bt462.1 bt462.2.1 bt462.2.2.1 bt462.2.2.2.1 bt462.2.2.2.2.1 bt462.2.2.2.2.2 (⟨#[120]⟩ : ByteArray) bt471.1 bt471.2.1 bt471.2.2.1 bt471.2.2.2.1 bt471.2.2.2.2.1 bt471.2.2.2.2.2.1 bt471.2.2.2.2.2.2 bt481.1 bt481.2.1 bt481.2.2.1 bt481.2.2.2.1 bt481.2.2.2.2.1 bt481.2.2.2.2.2.1 bt481.2.2.2.2.2.2 bt497.1 bt497.2.1 bt497.2.2.1 bt497.2.2.2.1 bt497.2.2.2.2.1 bt497.2.2.2.2.2.1 bt497.2.2.2.2.2.2)))))))) else (none))) = some r := h
  clear h
  replace H := Option.bind_eq_some_iff.mp H
  obtain ⟨t461, A40, H⟩ := H
  replace H : (if t461 = true then ((lockagelaw06_Made.f k l0 false).bind fun bt462 => ((forward_Request.f k bt462.1 bt462.2.1 bt462.2.2.1 bt462.2.2.2.1 bt462.2.2.2.2.1 bt462.2.2.2.2.2 (⟨#[120]⟩ : ByteArray) (wrap64 (a1))).bind fun bt471 => ((forward_Request.f k bt471.1 bt471.2.1 bt471.2.2.1 bt471.2.2.2.1 bt471.2.2.2.2.1 bt471.2.2.2.2.2.1 bt471.2.2.2.2.2.2 (wrap64 (a2))).bind fun bt481 => ((lockageref05_Get.f k bt471.2.2.2.2.2.1 (⟨#[120, 45, 102, 111, 114, 119, 97, 114, 100, 101, 100, 45, 102, 111, 114]⟩ : ByteArray)).bind fun t491 => ((lockageref05_Get.f k bt481.2.2.2.2.2.1 (⟨#[120, 45, 102, 111, 114, 119, 97, 114, 100, 101, 100, 45, 102, 111, 114]⟩ : ByteArray)).bind fun t494 => ((forward_Request.f k (⟨#[]⟩ : ByteArray) (⟨#[]⟩ : ByteArray) 0 (⟨#[]⟩ : ByteArray) 0 ([] : List (S28)) (⟨#[]⟩ : ByteArray) (wrap64 (a2))).bind fun bt497 => (if (t491.length : Int) = 1 then (if (t494.length : Int) = 1 then (lockagelaw15_ForwardTwice.j0 k t461 t491 t494 ((bt497.2.2.2.2.2.1.length : Int) != 1) bt462.1 bt462.2.1 bt462.2.2.1 bt462.2.2.2.1 bt462.2.2.2.2.1 bt462.2.2.2.2.2 (⟨#[120]⟩ : ByteArray) bt471.1 bt471.2.1 bt471.2.2.1 bt471.2.2.2.1 bt471.2.2.2.2.1 bt471.2.2.2.2.2.1 bt471.2.2.2.2.2.2 bt481.1 bt481.2.1 bt481.2.2.1 bt481.2.2.2.1 bt481.2.2.2.2.1 bt481.2.2.2.2.2.1 bt481.2.2.2.2.2.2 bt497.1 bt497.2.1 bt497.2.2.1 bt497.2.2.2.1 bt497.2.2.2.2.1 bt497.2.2.2.2.2.1 bt497.2.2.2.2.2.2) else (lockagelaw15_ForwardTwice.j0 k t461 t491 t494 true bt462.1 bt462.2.1 bt462.2.2.1 bt462.2.2.2.1 bt462.2.2.2.2.1 bt462.2.2.2.2.2 (⟨#[120]⟩ : ByteArray) bt471.1 bt471.2.1 bt471.2.2.1 bt471.2.2.2.1 bt471.2.2.2.2.1 bt471.2.2.2.2.2.1 bt471.2.2.2.2.2.2 bt481.1 bt481.2.1 bt481.2.2.1 bt481.2.2.2.1 bt481.2.2.2.2.1 bt481.2.2.2.2.2.1 bt481.2.2.2.2.2.2 bt497.1 bt497.2.1 bt497.2.2.1 bt497.2.2.2.1 bt497.2.2.2.2.1 bt497.2.2.2.2.2.1 bt497.2.2.2.2.2.2)) else (lockagelaw15_ForwardTwice.j0 k t461 t491 t494 true bt462.1 bt462.2.1 bt462.2.2.1 bt462.2.2.2.1 bt462.2.2.2.2.1 bt462.2.2.2.2.2 (⟨#[120]⟩ : ByteArray) bt471.1 bt471.2.1 bt471.2.2.1 bt471.2.2.2.1 bt471.2.2.2.2.1 bt471.2.2.2.2.2.1 bt471.2.2.2.2.2.2 bt481.1 bt481.2.1 bt481.2.2.1 bt481.2.2.2.1 bt481.2.2.2.2.1 bt481.2.2.2.2.2.1 bt481.2.2.2.2.2.2 bt497.1 bt497.2.1 bt497.2.2.1 bt497.2.2.2.1 bt497.2.2.2.2.1 bt497.2.2.2.2.2.1 bt497.2.2.2.2.2.2)))))))) else (none)) = some r := H
  have A4 := Aside0.mk A40
  clear A40
  by_cases c5 : t461 = true
  · subst c5
    have H1 : ((lockagelaw06_Made.f k l0 false).bind fun bt462 => ((forward_Request.f k bt462.1 bt462.2.1 bt462.2.2.1 bt462.2.2.2.1 bt462.2.2.2.2.1 bt462.2.2.2.2.2 (⟨#[120]⟩ : ByteArray) (wrap64 (a1))).bind fun bt471 => ((forward_Request.f k bt471.1 bt471.2.1 bt471.2.2.1 bt471.2.2.2.1 bt471.2.2.2.2.1 bt471.2.2.2.2.2.1 bt471.2.2.2.2.2.2 (wrap64 (a2))).bind fun bt481 => ((lockageref05_Get.f k bt471.2.2.2.2.2.1 (⟨#[120, 45, 102, 111, 114, 119, 97, 114, 100, 101, 100, 45, 102, 111, 114]⟩ : ByteArray)).bind fun t491 => ((lockageref05_Get.f k bt481.2.2.2.2.2.1 (⟨#[120, 45, 102, 111, 114, 119, 97, 114, 100, 101, 100, 45, 102, 111, 114]⟩ : ByteArray)).bind fun t494 => ((forward_Request.f k (⟨#[]⟩ : ByteArray) (⟨#[]⟩ : ByteArray) 0 (⟨#[]⟩ : ByteArray) 0 ([] : List (S28)) (⟨#[]⟩ : ByteArray) (wrap64 (a2))).bind fun bt497 => (if (t491.length : Int) = 1 then (if (t494.length : Int) = 1 then (lockagelaw15_ForwardTwice.j0 k true t491 t494 ((bt497.2.2.2.2.2.1.length : Int) != 1) bt462.1 bt462.2.1 bt462.2.2.1 bt462.2.2.2.1 bt462.2.2.2.2.1 bt462.2.2.2.2.2 (⟨#[120]⟩ : ByteArray) bt471.1 bt471.2.1 bt471.2.2.1 bt471.2.2.2.1 bt471.2.2.2.2.1 bt471.2.2.2.2.2.1 bt471.2.2.2.2.2.2 bt481.1 bt481.2.1 bt481.2.2.1 bt481.2.2.2.1 bt481.2.2.2.2.1 bt481.2.2.2.2.2.1 bt481.2.2.2.2.2.2 bt497.1 bt497.2.1 bt497.2.2.1 bt497.2.2.2.1 bt497.2.2.2.2.1 bt497.2.2.2.2.2.1 bt497.2.2.2.2.2.2) else (lockagelaw15_ForwardTwice.j0 k true t491 t494 true bt462.1 bt462.2.1 bt462.2.2.1 bt462.2.2.2.1 bt462.2.2.2.2.1 bt462.2.2.2.2.2 (⟨#[120]⟩ : ByteArray) bt471.1 bt471.2.1 bt471.2.2.1 bt471.2.2.2.1 bt471.2.2.2.2.1 bt471.2.2.2.2.2.1 bt471.2.2.2.2.2.2 bt481.1 bt481.2.1 bt481.2.2.1 bt481.2.2.2.1 bt481.2.2.2.2.1 bt481.2.2.2.2.2.1 bt481.2.2.2.2.2.2 bt497.1 bt497.2.1 bt497.2.2.1 bt497.2.2.2.1 bt497.2.2.2.2.1 bt497.2.2.2.2.2.1 bt497.2.2.2.2.2.2)) else (lockagelaw15_ForwardTwice.j0 k true t491 t494 true bt462.1 bt462.2.1 bt462.2.2.1 bt462.2.2.2.1 bt462.2.2.2.2.1 bt462.2.2.2.2.2 (⟨#[120]⟩ : ByteArray) bt471.1 bt471.2.1 bt471.2.2.1 bt471.2.2.2.1 bt471.2.2.2.2.1 bt471.2.2.2.2.2.1 bt471.2.2.2.2.2.2 bt481.1 bt481.2.1 bt481.2.2.1 bt481.2.2.2.1 bt481.2.2.2.2.1 bt481.2.2.2.2.2.1 bt481.2.2.2.2.2.2 bt497.1 bt497.2.1 bt497.2.2.1 bt497.2.2.2.1 bt497.2.2.2.2.1 bt497.2.2.2.2.2.1 bt497.2.2.2.2.2.2)))))))) = some r := by rw [if_pos rfl] at H; exact H
    clear H
    have H := H1
    clear H1
    replace H := Option.bind_eq_some_iff.mp H
    obtain ⟨⟨t462, t463, t464, t465, t466, t467⟩, A60, H⟩ := H
    replace H : ((forward_Request.f k t462 t463 t464 t465 t466 t467 (⟨#[120]⟩ : ByteArray) (wrap64 (a1))).bind fun bt471 => ((forward_Request.f k bt471.1 bt471.2.1 bt471.2.2.1 bt471.2.2.2.1 bt471.2.2.2.2.1 bt471.2.2.2.2.2.1 bt471.2.2.2.2.2.2 (wrap64 (a2))).bind fun bt481 => ((lockageref05_Get.f k bt471.2.2.2.2.2.1 (⟨#[120, 45, 102, 111, 114, 119, 97, 114, 100, 101, 100, 45, 102, 111, 114]⟩ : ByteArray)).bind fun t491 => ((lockageref05_Get.f k bt481.2.2.2.2.2.1 (⟨#[120, 45, 102, 111, 114, 119, 97, 114, 100, 101, 100, 45, 102, 111, 114]⟩ : ByteArray)).bind fun t494 => ((forward_Request.f k (⟨#[]⟩ : ByteArray) (⟨#[]⟩ : ByteArray) 0 (⟨#[]⟩ : ByteArray) 0 ([] : List (S28)) (⟨#[]⟩ : ByteArray) (wrap64 (a2))).bind fun bt497 => (if (t491.length : Int) = 1 then (if (t494.length : Int) = 1 then (lockagelaw15_ForwardTwice.j0 k true t491 t494 ((bt497.2.2.2.2.2.1.length : Int) != 1) t462 t463 t464 t465 t466 t467 (⟨#[120]⟩ : ByteArray) bt471.1 bt471.2.1 bt471.2.2.1 bt471.2.2.2.1 bt471.2.2.2.2.1 bt471.2.2.2.2.2.1 bt471.2.2.2.2.2.2 bt481.1 bt481.2.1 bt481.2.2.1 bt481.2.2.2.1 bt481.2.2.2.2.1 bt481.2.2.2.2.2.1 bt481.2.2.2.2.2.2 bt497.1 bt497.2.1 bt497.2.2.1 bt497.2.2.2.1 bt497.2.2.2.2.1 bt497.2.2.2.2.2.1 bt497.2.2.2.2.2.2) else (lockagelaw15_ForwardTwice.j0 k true t491 t494 true t462 t463 t464 t465 t466 t467 (⟨#[120]⟩ : ByteArray) bt471.1 bt471.2.1 bt471.2.2.1 bt471.2.2.2.1 bt471.2.2.2.2.1 bt471.2.2.2.2.2.1 bt471.2.2.2.2.2.2 bt481.1 bt481.2.1 bt481.2.2.1 bt481.2.2.2.1 bt481.2.2.2.2.1 bt481.2.2.2.2.2.1 bt481.2.2.2.2.2.2 bt497.1 bt497.2.1 bt497.2.2.1 bt497.2.2.2.1 bt497.2.2.2.2.1 bt497.2.2.2.2.2.1 bt497.2.2.2.2.2.2)) else (lockagelaw15_ForwardTwice.j0 k true t491 t494 true t462 t463 t464 t465 t466 t467 (⟨#[120]⟩ : ByteArray) bt471.1 bt471.2.1 bt471.2.2.1 bt471.2.2.2.1 bt471.2.2.2.2.1 bt471.2.2.2.2.2.1 bt471.2.2.2.2.2.2 bt481.1 bt481.2.1 bt481.2.2.1 bt481.2.2.2.1 bt481.2.2.2.2.1 bt481.2.2.2.2.2.1 bt481.2.2.2.2.2.2 bt497.1 bt497.2.1 bt497.2.2.1 bt497.2.2.2.1 bt497.2.2.2.2.1 bt497.2.2.2.2.2.1 bt497.2.2.2.2.2.2))))))) = some r := H
    have A6 := Aside0.mk A60
    clear A60
    replace H := Option.bind_eq_some_iff.mp H
    obtain ⟨⟨t471, t472, t473, t474, t475, t476, t479⟩, A70, H⟩ := H
    replace H : ((forward_Request.f k t471 t472 t473 t474 t475 t476 t479 (wrap64 (a2))).bind fun bt481 => ((lockageref05_Get.f k t476 (⟨#[120, 45, 102, 111, 114, 119, 97, 114, 100, 101, 100, 45, 102, 111, 114]⟩ : ByteArray)).bind fun t491 => ((lockageref05_Get.f k bt481.2.2.2.2.2.1 (⟨#[120, 45, 102, 111, 114, 119, 97, 114, 100, 101, 100, 45, 102, 111, 114]⟩ : ByteArray)).bind fun t494 => ((forward_Request.f k (⟨#[]⟩ : ByteArray) (⟨#[]⟩ : ByteArray) 0 (⟨#[]⟩ : ByteArray) 0 ([] : List (S28)) (⟨#[]⟩ : ByteArray) (wrap64 (a2))).bind fun bt497 => (if (t491.length : Int) = 1 then (if (t494.length : Int) = 1 then (lockagelaw15_ForwardTwice.j0 k true t491 t494 ((bt497.2.2.2.2.2.1.length : Int) != 1) t462 t463 t464 t465 t466 t467 (⟨#[120]⟩ : ByteArray) t471 t472 t473 t474 t475 t476 t479 bt481.1 bt481.2.1 bt481.2.2.1 bt481.2.2.2.1 bt481.2.2.2.2.1 bt481.2.2.2.2.2.1 bt481.2.2.2.2.2.2 bt497.1 bt497.2.1 bt497.2.2.1 bt497.2.2.2.1 bt497.2.2.2.2.1 bt497.2.2.2.2.2.1 bt497.2.2.2.2.2.2) else (lockagelaw15_ForwardTwice.j0 k true t491 t494 true t462 t463 t464 t465 t466 t467 (⟨#[120]⟩ : ByteArray) t471 t472 t473 t474 t475 t476 t479 bt481.1 bt481.2.1 bt481.2.2.1 bt481.2.2.2.1 bt481.2.2.2.2.1 bt481.2.2.2.2.2.1 bt481.2.2.2.2.2.2 bt497.1 bt497.2.1 bt497.2.2.1 bt497.2.2.2.1 bt497.2.2.2.2.1 bt497.2.2.2.2.2.1 bt497.2.2.2.2.2.2)) else (lockagelaw15_ForwardTwice.j0 k true t491 t494 true t462 t463 t464 t465 t466 t467 (⟨#[120]⟩ : ByteArray) t471 t472 t473 t474 t475 t476 t479 bt481.1 bt481.2.1 bt481.2.2.1 bt481.2.2.2.1 bt481.2.2.2.2.1 bt481.2.2.2.2.2.1 bt481.2.2.2.2.2.2 bt497.1 bt497.2.1 bt497.2.2.1 bt497.2.2.2.1 bt497.2.2.2.2.1 bt497.2.2.2.2.2.1 bt497.2.2.2.2.2.2)))))) = some r := H
    have A7 := Aside0.mk A70
    clear A70
    replace H := Option.bind_eq_some_iff.mp H
    obtain ⟨⟨t481, t482, t483, t484, t485, t486, t489⟩, A80, H⟩ := H
    replace H : ((lockageref05_Get.f k t476 (⟨#[120, 45, 102, 111, 114, 119, 97, 114, 100, 101, 100, 45, 102, 111, 114]⟩ : ByteArray)).bind fun t491 => ((lockageref05_Get.f k t486 (⟨#[120, 45, 102, 111, 114, 119, 97, 114, 100, 101, 100, 45, 102, 111, 114]⟩ : ByteArray)).bind fun t494 => ((forward_Request.f k (⟨#[]⟩ : ByteArray) (⟨#[]⟩ : ByteArray) 0 (⟨#[]⟩ : ByteArray) 0 ([] : List (S28)) (⟨#[]⟩ : ByteArray) (wrap64 (a2))).bind fun bt497 => (if (t491.length : Int) = 1 then (if (t494.length : Int) = 1 then (lockagelaw15_ForwardTwice.j0 k true t491 t494 ((bt497.2.2.2.2.2.1.length : Int) != 1) t462 t463 t464 t465 t466 t467 (⟨#[120]⟩ : ByteArray) t471 t472 t473 t474 t475 t476 t479 t481 t482 t483 t484 t485 t486 t489 bt497.1 bt497.2.1 bt497.2.2.1 bt497.2.2.2.1 bt497.2.2.2.2.1 bt497.2.2.2.2.2.1 bt497.2.2.2.2.2.2) else (lockagelaw15_ForwardTwice.j0 k true t491 t494 true t462 t463 t464 t465 t466 t467 (⟨#[120]⟩ : ByteArray) t471 t472 t473 t474 t475 t476 t479 t481 t482 t483 t484 t485 t486 t489 bt497.1 bt497.2.1 bt497.2.2.1 bt497.2.2.2.1 bt497.2.2.2.2.1 bt497.2.2.2.2.2.1 bt497.2.2.2.2.2.2)) else (lockagelaw15_ForwardTwice.j0 k true t491 t494 true t462 t463 t464 t465 t466 t467 (⟨#[120]⟩ : ByteArray) t471 t472 t473 t474 t475 t476 t479 t481 t482 t483 t484 t485 t486 t489 bt497.1 bt497.2.1 bt497.2.2.1 bt497.2.2.2.1 bt497.2.2.2.2.1 bt497.2.2.2.2.2.1 bt497.2.2.2.2.2.2))))) = some r := H
    have A8 := Aside0.mk A80
    clear A80
    replace H := Option.bind_eq_some_iff.mp H
    obtain ⟨t491, A90, H⟩ := H
    replace H : ((lockageref05_Get.f k t486 (⟨#[120, 45, 102, 111, 114, 119, 97, 114, 100, 101, 100, 45, 102, 111, 114]⟩ : ByteArray)).bind fun t494 => ((forward_Request.f k (⟨#[]⟩ : ByteArray) (⟨#[]⟩ : ByteArray) 0 (⟨#[]⟩ : ByteArray) 0 ([] : List (S28)) (⟨#[]⟩ : ByteArray) (wrap64 (a2))).bind fun bt497 => (if (t491.length : Int) = 1 then (if (t494.length : Int) = 1 then (lockagelaw15_ForwardTwice.j0 k true t491 t494 ((bt497.2.2.2.2.2.1.length : Int) != 1) t462 t463 t464 t465 t466 t467 (⟨#[120]⟩ : ByteArray) t471 t472 t473 t474 t475 t476 t479 t481 t482 t483 t484 t485 t486 t489 bt497.1 bt497.2.1 bt497.2.2.1 bt497.2.2.2.1 bt497.2.2.2.2.1 bt497.2.2.2.2.2.1 bt497.2.2.2.2.2.2) else (lockagelaw15_ForwardTwice.j0 k true t491 t494 true t462 t463 t464 t465 t466 t467 (⟨#[120]⟩ : ByteArray) t471 t472 t473 t474 t475 t476 t479 t481 t482 t483 t484 t485 t486 t489 bt497.1 bt497.2.1 bt497.2.2.1 bt497.2.2.2.1 bt497.2.2.2.2.1 bt497.2.2.2.2.2.1 bt497.2.2.2.2.2.2)) else (lockagelaw15_ForwardTwice.j0 k true t491 t494 true t462 t463 t464 t465 t466 t467 (⟨#[120]⟩ : ByteArray) t471 t472 t473 t474 t475 t476 t479 t481 t482 t483 t484 t485 t486 t489 bt497.1 bt497.2.1 bt497.2.2.1 bt497.2.2.2.1 bt497.2.2.2.2.1 bt497.2.2.2.2.2.1 bt497.2.2.2.2.2.2)))) = some r := H
    have A9 := Aside0.mk A90
    clear A90
    replace H := Option.bind_eq_some_iff.mp H
    obtain ⟨t494, A100, H⟩ := H
    replace H : ((forward_Request.f k (⟨#[]⟩ : ByteArray) (⟨#[]⟩ : ByteArray) 0 (⟨#[]⟩ : ByteArray) 0 ([] : List (S28)) (⟨#[]⟩ : ByteArray) (wrap64 (a2))).bind fun bt497 => (if (t491.length : Int) = 1 then (if (t494.length : Int) = 1 then (lockagelaw15_ForwardTwice.j0 k true t491 t494 ((bt497.2.2.2.2.2.1.length : Int) != 1) t462 t463 t464 t465 t466 t467 (⟨#[120]⟩ : ByteArray) t471 t472 t473 t474 t475 t476 t479 t481 t482 t483 t484 t485 t486 t489 bt497.1 bt497.2.1 bt497.2.2.1 bt497.2.2.2.1 bt497.2.2.2.2.1 bt497.2.2.2.2.2.1 bt497.2.2.2.2.2.2) else (lockagelaw15_ForwardTwice.j0 k true t491 t494 true t462 t463 t464 t465 t466 t467 (⟨#[120]⟩ : ByteArray) t471 t472 t473 t474 t475 t476 t479 t481 t482 t483 t484 t485 t486 t489 bt497.1 bt497.2.1 bt497.2.2.1 bt497.2.2.2.1 bt497.2.2.2.2.1 bt497.2.2.2.2.2.1 bt497.2.2.2.2.2.2)) else (lockagelaw15_ForwardTwice.j0 k true t491 t494 true t462 t463 t464 t465 t466 t467 (⟨#[120]⟩ : ByteArray) t471 t472 t473 t474 t475 t476 t479 t481 t482 t483 t484 t485 t486 t489 bt497.1 bt497.2.1 bt497.2.2.1 bt497.2.2.2.1 bt497.2.2.2.2.1 bt497.2.2.2.2.2.1 bt497.2.2.2.2.2.2))) = some r := H
    have A10 := Aside0.mk A100
    clear A100
    replace H := Option.bind_eq_some_iff.mp H
    obtain ⟨⟨t497, t498, t499, t500, t501, t502, t505⟩, A110, H⟩ := H
    replace H : (if (t491.length : Int) = 1 then (if (t494.length : Int) = 1 then (lockagelaw15_ForwardTwice.j0 k true t491 t494 ((t502.length : Int) != 1) t462 t463 t464 t465 t466 t467 (⟨#[120]⟩ : ByteArray) t471 t472 t473 t474 t475 t476 t479 t481 t482 t483 t484 t485 t486 t489 t497 t498 t499 t500 t501 t502 t505) else (lockagelaw15_ForwardTwice.j0 k true t491 t494 true t462 t463 t464 t465 t466 t467 (⟨#[120]⟩ : ByteArray) t471 t472 t473 t474 t475 t476 t479 t481 t482 t483 t484 t485 t486 t489 t497 t498 t499 t500 t501 t502 t505)) else (lockagelaw15_ForwardTwice.j0 k true t491 t494 true t462 t463 t464 t465 t466 t467 (⟨#[120]⟩ : ByteArray) t471 t472 t473 t474 t475 t476 t479 t481 t482 t483 t484 t485 t486 t489 t497 t498 t499 t500 t501 t502 t505)) = some r := H
    have A11 := Aside0.mk A110
    clear A110
    have HC12 := Aside0.mk H
    clear H
    go_enter Tryd.func6, Tryd.ntmps6
    try go_wp2_with (first | ((with_reducible refine gate_callee (f := 7) rfl ?_); refine goesL_ (some 15) rfl rfl Tryd.func7 (by kernel_rfl) rfl #[] rfl (by (try simp only [List.map_toArray, List.map_cons, List.map_nil]); first | done | rfl | (simp only [List.length_drop, List.length_take]; rfl)) ?_; (with_reducible refine (lockagelaw15_awake.calls k  true _ ?side1 A4.out).mono ?_); (case side1 => exact glob_below HG_.out (by repeat (first | (with_reducible first | exact HB.out | apply below_alloc | apply pw_below_drewN | apply below_drew1) | exact HB.out))); rintro e w13 ⟨rfl, hb⟩; refine ⟨_, rfl, ?_⟩; have n0_ := Aside0.mk (below_step (by repeat (first | (with_reducible first | exact HB.out | apply below_alloc | apply pw_below_drewN | apply below_drew1) | exact HB.out)) hb); clear HB; have HB := n0_; clear n0_; (try clear hb); (try clear hb2); (try clear hk); (try clear hi)) | ((with_reducible refine gate_callee (f := 9) rfl ?_); refine goesL_ (some 19) rfl rfl Tryd.func9 (by kernel_rfl) rfl #[.slice A0 l0.length c0, .bool false] rfl (by (try simp only [List.map_toArray, List.map_cons, List.map_nil]); first | done | rfl | (simp only [List.length_drop, List.length_take]; rfl)) ?_; (with_reducible refine (lockagelaw06_Made.calls k _ _ l0 false t462 t463 t464 t465 t466 t467 _ ?side1 ?side2 A6.out).mono ?_); (case side1 => repeat (first | exact (Kd.C_below HR0.out HB.out) | (with_reducible refine Kd.C_alloc ?_ _) | (with_reducible refine Kd.C_drewN ?_ _) | (with_reducible refine Kd.C_drew ?_))); (case side2 => exact HC0.out); rintro e w14 ⟨v468, rfl, ho0, hb⟩; refine ⟨_, rfl, ?_⟩; have n0_ := Aside0.mk (Kd.R_lower ho0 (below_size (by repeat (first | (with_reducible first | exact HB.out | apply below_alloc | apply pw_below_drewN | apply below_drew1) | exact HB.out)))); have n1_ := Aside0.mk (below_step (by repeat (first | (with_reducible first | exact HB.out | apply below_alloc | apply pw_below_drewN | apply below_drew1) | exact HB.out)) hb); clear HB; have HO469 := n0_; have HB := n1_; clear n0_ n1_; (try clear hb); (try clear hb2); (try clear hk); (try clear hi); (try clear ho0); obtain ⟨Ao15, co15, eo15⟩ := Kd.R_slice HO469.out; subst eo15) | ((with_reducible refine gate_dst (N := 8) rfl ?_); (try (refine gate_guard (by rfl) ?_; dsimp only)); refine box_event ?hg (N := 8) ?hd (cs := #[.string (⟨#[]⟩ : ByteArray), .string (⟨#[]⟩ : ByteArray), .int .i64 0, .string (⟨#[]⟩ : ByteArray), .int .i64 0, .slice none 0 0, .string (⟨#[]⟩ : ByteArray)]) (t := 26) ?hr ?_; (case hd => rfl); (case hg => rfl); (case hr => first | (go_simp; done) | (go_simp; rfl)); intro gb470 hg w16 hbox hb; have n0_ := Aside0.mk (Kd.R_below (by (with_reducible repeat (first | apply Kd.R_alloc | apply Kd.R_drewN | apply Kd.R_drew)); exact HO469.out) hb); have n1_ := Aside0.mk (below_step (by repeat (first | (with_reducible first | exact HB.out | apply below_alloc | apply pw_below_drewN | apply below_drew1) | exact HB.out)) hb); have n2_ := Aside0.mk (hbox); have n3_ := Aside0.mk ((by rw [hg]; exact (below_size (by repeat (first | (with_reducible first | exact HB.out | apply below_alloc | apply pw_below_drewN | apply below_drew1) | exact HB.out))) : w.heap.size ≤ gb470)); have n4_ := Aside0.mk ((by rw [hg]; exact (below_size (by repeat (first | (with_reducible first | exact HB.out | apply below_alloc | apply pw_below_drewN | apply below_drew1) | exact HB.out))) : w.heap.size ≤ gb470)); clear HO469; clear HB; have HO469 := n0_; have HB := n1_; have BK470 := n2_; have GW470 := n3_; have GE470 := n4_; clear n0_ n1_ n2_ n3_ n4_; clear hb hbox hg; have hcz17_0 : w16.cell? ⟨gb470, 0, none⟩ = some (.string (⟨#[]⟩ : ByteArray)) := (blk_cell BK470.out 0).trans rfl; have hcz17_1 : w16.cell? ⟨gb470, 1, none⟩ = some (.string (⟨#[]⟩ : ByteArray)) := (blk_cell BK470.out 1).trans rfl; have hcz17_2 : w16.cell? ⟨gb470, 2, none⟩ = some (.int .i64 0) := (blk_cell BK470.out 2).trans rfl; have hcz17_3 : w16.cell? ⟨gb470, 3, none⟩ = some (.string (⟨#[]⟩ : ByteArray)) := (blk_cell BK470.out 3).trans rfl; have hcz17_4 : w16.cell? ⟨gb470, 4, none⟩ = some (.int .i64 0) := (blk_cell BK470.out 4).trans rfl; have hcz17_5 : w16.cell? ⟨gb470, 5, none⟩ = some (.slice none 0 0) := (blk_cell BK470.out 5).trans rfl; have hcz17_6 : w16.cell? ⟨gb470, 6, none⟩ = some (.string (⟨#[]⟩ : ByteArray)) := (blk_cell BK470.out 6).trans rfl; have hfz17_0 := blk_frozen BK470.out 0; have hfz17_1 := blk_frozen BK470.out 1; have hfz17_2 := blk_frozen BK470.out 2; have hfz17_3 := blk_frozen BK470.out 3; have hfz17_4 := blk_frozen BK470.out 4; have hfz17_5 := blk_frozen BK470.out 5; have hfz17_6 := blk_frozen BK470.out 6) | ((with_reducible refine gate_callee (f := 10) rfl ?_); refine goesL_ (some 24) rfl rfl Tryd.func10 (by kernel_rfl) rfl #[.agg #[.string t462, .string t463, .int .i64 t464, .string t465, .int .i64 t466, .slice Ao15 t467.length co15, .string (⟨#[120]⟩ : ByteArray)], .int .i64 (wrap64 (a1))] rfl (by (try simp only [List.map_toArray, List.map_cons, List.map_nil]); first | done | rfl | (simp only [List.length_drop, List.length_take]; rfl)) ?_; (with_reducible refine (forward_Request.calls k t462 t463 t464 t465 t466 _ _ t467 (⟨#[120]⟩ : ByteArray) (wrap64 (a1)) t471 t472 t473 t474 t475 t476 t479 _ ?side1 ?side2 ?side3 A7.out).mono ?_); (case side1 => refine (Kd.R_reads' (e := 28) (base := w.heap.size) (ok := fun k_ => True) (n := t467.length) (c := co15) ?_).2.2; exact (by (with_reducible repeat (first | apply Kd.R_alloc | apply Kd.R_drewN | apply Kd.R_drew)); exact (Kd.R_mono (Kd.R_far (p := ⟨gb470, 6, none⟩) (Kd.R_far (p := ⟨gb470, 5, none⟩) (Kd.R_far (p := ⟨gb470, 4, none⟩) (Kd.R_far (p := ⟨gb470, 3, none⟩) (Kd.R_far (p := ⟨gb470, 2, none⟩) (Kd.R_far (p := ⟨gb470, 1, none⟩) (Kd.R_far (p := ⟨gb470, 0, none⟩) (Kd.R_types HO469.out BK470.out (by decide)) (fun _ hk => hk.2) (.string t462)) (fun _ hk => hk.2) (.string t463)) (fun _ hk => hk.2) (.int .i64 t464)) (fun _ hk => hk.2) (.string t465)) (fun _ hk => hk.2) (.int .i64 t466)) (fun _ hk => hk.2) (.slice Ao15 t467.length co15)) (fun _ hk => hk.2) (.string (⟨#[120]⟩ : ByteArray))) (fun _ h_ => h_.1)))); (case side2 => exact (Kd.R_reads' HO469.out).2.1); (case side3 => exact glob_below HG_.out (by repeat (first | (with_reducible first | exact HB.out | apply below_alloc | apply pw_below_drewN | apply below_drew1 | refine below_set ?_ GE470.out) | exact HB.out))); rintro e w18 ⟨v477, rfl, ho0, hb⟩; refine ⟨_, rfl, ?_⟩; have n0_ := Aside0.mk (Kd.R_elder' (by (with_reducible repeat (first | apply Kd.R_alloc | apply Kd.R_drewN | apply Kd.R_drew)); exact (Kd.R_mono (Kd.R_far (p := ⟨gb470, 6, none⟩) (Kd.R_far (p := ⟨gb470, 5, none⟩) (Kd.R_far (p := ⟨gb470, 4, none⟩) (Kd.R_far (p := ⟨gb470, 3, none⟩) (Kd.R_far (p := ⟨gb470, 2, none⟩) (Kd.R_far (p := ⟨gb470, 1, none⟩) (Kd.R_far (p := ⟨gb470, 0, none⟩) (Kd.R_types HO469.out BK470.out (by decide)) (fun _ hk => hk.2) (.string t462)) (fun _ hk => hk.2) (.string t463)) (fun _ hk => hk.2) (.int .i64 t464)) (fun _ hk => hk.2) (.string t465)) (fun _ hk => hk.2) (.int .i64 t466)) (fun _ hk => hk.2) (.slice Ao15 t467.length co15)) (fun _ hk => hk.2) (.string (⟨#[120]⟩ : ByteArray))) (fun _ h_ => h_.1))) (Kd.R_base ho0) hb); have n1_ := Aside0.mk (Kd.R_lower (Kd.R_new' ho0 (Kd.R_lt (by (with_reducible repeat (first | apply Kd.R_alloc | apply Kd.R_drewN | apply Kd.R_drew)); exact (Kd.R_mono (Kd.R_far (p := ⟨gb470, 6, none⟩) (Kd.R_far (p := ⟨gb470, 5, none⟩) (Kd.R_far (p := ⟨gb470, 4, none⟩) (Kd.R_far (p := ⟨gb470, 3, none⟩) (Kd.R_far (p := ⟨gb470, 2, none⟩) (Kd.R_far (p := ⟨gb470, 1, none⟩) (Kd.R_far (p := ⟨gb470, 0, none⟩) (Kd.R_types HO469.out BK470.out (by decide)) (fun _ hk => hk.2) (.string t462)) (fun _ hk => hk.2) (.string t463)) (fun _ hk => hk.2) (.int .i64 t464)) (fun _ hk => hk.2) (.string t465)) (fun _ hk => hk.2) (.int .i64 t466)) (fun _ hk => hk.2) (.slice Ao15 t467.length co15)) (fun _ hk => hk.2) (.string (⟨#[120]⟩ : ByteArray))) (fun _ h_ => h_.1))))) (below_size (by repeat (first | (with_reducible first | exact HB.out | apply below_alloc | apply pw_below_drewN | apply below_drew1 | refine below_set ?_ GE470.out) | exact HB.out)))); have n2_ := Aside0.mk (blk_below (g := gb470) (o := .cells #[.string t462, .string t463, .int .i64 t464, .string t465, .int .i64 t466, .slice Ao15 t467.length co15, .string (⟨#[120]⟩ : ByteArray)] 26 (0, 0)) (by (with_reducible repeat (first | refine blk_drewN ?_ _ | refine blk_drew ?_ | refine blk_alloc ?_ _)); refine blk_put (cs := #[.string t462, .string t463, .int .i64 t464, .string t465, .int .i64 t466, .slice Ao15 t467.length co15, .string (⟨#[]⟩ : ByteArray)]) ?_ 6 _ rfl; (with_reducible repeat (first | refine blk_drewN ?_ _ | refine blk_drew ?_ | refine blk_alloc ?_ _)); refine blk_put (cs := #[.string t462, .string t463, .int .i64 t464, .string t465, .int .i64 t466, .slice none 0 0, .string (⟨#[]⟩ : ByteArray)]) ?_ 5 _ rfl; (with_reducible repeat (first | refine blk_drewN ?_ _ | refine blk_drew ?_ | refine blk_alloc ?_ _)); refine blk_put (cs := #[.string t462, .string t463, .int .i64 t464, .string t465, .int .i64 0, .slice none 0 0, .string (⟨#[]⟩ : ByteArray)]) ?_ 4 _ rfl; (with_reducible repeat (first | refine blk_drewN ?_ _ | refine blk_drew ?_ | refine blk_alloc ?_ _)); refine blk_put (cs := #[.string t462, .string t463, .int .i64 t464, .string (⟨#[]⟩ : ByteArray), .int .i64 0, .slice none 0 0, .string (⟨#[]⟩ : ByteArray)]) ?_ 3 _ rfl; (with_reducible repeat (first | refine blk_drewN ?_ _ | refine blk_drew ?_ | refine blk_alloc ?_ _)); refine blk_put (cs := #[.string t462, .string t463, .int .i64 0, .string (⟨#[]⟩ : ByteArray), .int .i64 0, .slice none 0 0, .string (⟨#[]⟩ : ByteArray)]) ?_ 2 _ rfl; (with_reducible repeat (first | refine blk_drewN ?_ _ | refine blk_drew ?_ | refine blk_alloc ?_ _)); refine blk_put (cs := #[.string t462, .string (⟨#[]⟩ : ByteArray), .int .i64 0, .string (⟨#[]⟩ : ByteArray), .int .i64 0, .slice none 0 0, .string (⟨#[]⟩ : ByteArray)]) ?_ 1 _ rfl; (with_reducible repeat (first | refine blk_drewN ?_ _ | refine blk_drew ?_ | refine blk_alloc ?_ _)); refine blk_put (cs := #[.string (⟨#[]⟩ : ByteArray), .string (⟨#[]⟩ : ByteArray), .int .i64 0, .string (⟨#[]⟩ : ByteArray), .int .i64 0, .slice none 0 0, .string (⟨#[]⟩ : ByteArray)]) ?_ 0 _ rfl; (with_reducible repeat (first | refine blk_drewN ?_ _ | refine blk_drew ?_ | refine blk_alloc ?_ _)); exact BK470.out) hb); have n3_ := Aside0.mk (below_step (by repeat (first | (with_reducible first | exact HB.out | apply below_alloc | apply pw_below_drewN | apply below_drew1 | refine below_set ?_ GE470.out) | exact HB.out)) hb); clear HO469; clear BK470; clear HB; have HO469 := n0_; have HO478 := n1_; have BK470 := n2_; have HB := n3_; clear n0_ n1_ n2_ n3_; (try clear hb); (try clear hb2); (try clear hk); (try clear hi); (try clear ho0)) | ((with_reducible refine gate_dst (N := 9) rfl ?_); (try (refine gate_guard (by rfl) ?_; dsimp only)); refine box_event ?hg (N := 9) ?hd (cs := #[.string (⟨#[]⟩ : ByteArray), .string (⟨#[]⟩ : ByteArray), .int .i64 0, .string (⟨#[]⟩ : ByteArray), .int .i64 0, .slice none 0 0, .string (⟨#[]⟩ : ByteArray)]) (t := 26) ?hr ?_; (case hd => rfl); (case hg => rfl); (case hr => first | (go_simp; done) | (go_simp; rfl)); intro gb480 hg w19 hbox hb; have n0_ := Aside0.mk (Kd.R_below (by (with_reducible repeat (first | apply Kd.R_alloc | apply Kd.R_drewN | apply Kd.R_drew)); exact HO469.out) hb); have n1_ := Aside0.mk (Kd.R_below (by (with_reducible repeat (first | apply Kd.R_alloc | apply Kd.R_drewN | apply Kd.R_drew)); exact HO478.out) hb); have n2_ := Aside0.mk (blk_below (g := gb470) (o := .cells #[.string t462, .string t463, .int .i64 t464, .string t465, .int .i64 t466, .slice Ao15 t467.length co15, .string (⟨#[120]⟩ : ByteArray)] 26 (0, 0)) (by (with_reducible repeat (first | refine blk_drewN ?_ _ | refine blk_drew ?_ | refine blk_alloc ?_ _)); exact BK470.out) hb); have n3_ := Aside0.mk (below_step (by repeat (first | (with_reducible first | exact HB.out | apply below_alloc | apply pw_below_drewN | apply below_drew1 | refine below_set ?_ GE470.out) | exact HB.out)) hb); have n4_ := Aside0.mk (hbox); have n5_ := Aside0.mk ((by rw [hg]; exact (below_size (by repeat (first | (with_reducible first | exact HB.out | apply below_alloc | apply pw_below_drewN | apply below_drew1 | refine below_set ?_ GE470.out) | exact HB.out))) : w.heap.size ≤ gb480)); have n6_ := Aside0.mk ((by rw [hg]; exact (below_size (by repeat (first | (with_reducible first | exact HB.out | apply below_alloc | apply pw_below_drewN | apply below_drew1 | refine below_set ?_ GE470.out) | exact HB.out))) : w.heap.size ≤ gb480)); have n7_ := Aside0.mk ((by rw [hg]; exact Nat.ne_of_lt (blk_lt (g := gb470) (o := .cells #[.string t462, .string t463, .int .i64 t464, .string t465, .int .i64 t466, .slice Ao15 t467.length co15, .string (⟨#[120]⟩ : ByteArray)] 26 (0, 0)) (by (with_reducible repeat (first | refine blk_drewN ?_ _ | refine blk_drew ?_ | refine blk_alloc ?_ _)); exact BK470.out)) : gb470 ≠ gb480)); have n8_ := Aside0.mk ((by rw [hg]; exact Nat.ne_of_gt (blk_lt (g := gb470) (o := .cells #[.string t462, .string t463, .int .i64 t464, .string t465, .int .i64 t466, .slice Ao15 t467.length co15, .string (⟨#[120]⟩ : ByteArray)] 26 (0, 0)) (by (with_reducible repeat (first | refine blk_drewN ?_ _ | refine blk_drew ?_ | refine blk_alloc ?_ _)); exact BK470.out)) : gb480 ≠ gb470)); clear HO469; clear HO478; clear BK470; clear HB; have HO469 := n0_; have HO478 := n1_; have BK470 := n2_; have HB := n3_; have BK480 := n4_; have GW480 := n5_; have GE480 := n6_; have NB470_480 := n7_; have NB480_470 := n8_; clear n0_ n1_ n2_ n3_ n4_ n5_ n6_ n7_ n8_; clear hb hbox hg; have hnb20 := NB480_470.out; have hnc20 := NB470_480.out; have hcz21_0 : w19.cell? ⟨gb480, 0, none⟩ = some (.string (⟨#[]⟩ : ByteArray)) := (blk_cell BK480.out 0).trans rfl; have hcz21_1 : w19.cell? ⟨gb480, 1, none⟩ = some (.string (⟨#[]⟩ : ByteArray)) := (blk_cell BK480.out 1).trans rfl; have hcz21_2 : w19.cell? ⟨gb480, 2, none⟩ = some (.int .i64 0) := (blk_cell BK480.out 2).trans rfl; have hcz21_3 : w19.cell? ⟨gb480, 3, none⟩ = some (.string (⟨#[]⟩ : ByteArray)) := (blk_cell BK480.out 3).trans rfl; have hcz21_4 : w19.cell? ⟨gb480, 4, none⟩ = some (.int .i64 0) := (blk_cell BK480.out 4).trans rfl; have hcz21_5 : w19.cell? ⟨gb480, 5, none⟩ = some (.slice none 0 0) := (blk_cell BK480.out 5).trans rfl; have hcz21_6 : w19.cell? ⟨gb480, 6, none⟩ = some (.string (⟨#[]⟩ : ByteArray)) := (blk_cell BK480.out 6).trans rfl; have hfz21_0 := blk_frozen BK480.out 0; have hfz21_1 := blk_frozen BK480.out 1; have hfz21_2 := blk_frozen BK480.out 2; have hfz21_3 := blk_frozen BK480.out 3; have hfz21_4 := blk_frozen BK480.out 4; have hfz21_5 := blk_frozen BK480.out 5; have hfz21_6 := blk_frozen BK480.out 6; obtain ⟨Ao22, co22, eo22⟩ := Kd.R_slice HO478.out; subst eo22) | ((with_reducible refine gate_callee (f := 10) rfl ?_); refine goesL_ (some 28) rfl rfl Tryd.func10 (by kernel_rfl) rfl #[.agg #[.string t471, .string t472, .int .i64 t473, .string t474, .int .i64 t475, .slice Ao22 t476.length co22, .string t479], .int .i64 (wrap64 (a2))] rfl (by (try simp only [List.map_toArray, List.map_cons, List.map_nil]); first | done | rfl | (simp only [List.length_drop, List.length_take]; rfl)) ?_; (with_reducible refine (forward_Request.calls k t471 t472 t473 t474 t475 _ _ t476 t479 (wrap64 (a2)) t481 t482 t483 t484 t485 t486 t489 _ ?side1 ?side2 ?side3 A8.out).mono ?_); (case side1 => refine (Kd.R_reads' (e := 28) (base := w.heap.size) (ok := fun k_ => (True ∧ some k_ ≠ (.slice Ao15 t467.length co15 : Value).ownBlock)) (n := t476.length) (c := co22) ?_).2.2; exact (by (with_reducible repeat (first | apply Kd.R_alloc | apply Kd.R_drewN | apply Kd.R_drew)); exact (Kd.R_mono (Kd.R_far (p := ⟨gb480, 6, none⟩) (Kd.R_far (p := ⟨gb480, 5, none⟩) (Kd.R_far (p := ⟨gb480, 4, none⟩) (Kd.R_far (p := ⟨gb480, 3, none⟩) (Kd.R_far (p := ⟨gb480, 2, none⟩) (Kd.R_far (p := ⟨gb480, 1, none⟩) (Kd.R_far (p := ⟨gb480, 0, none⟩) (Kd.R_types HO478.out BK480.out (by decide)) (fun _ hk => hk.2) (.string t471)) (fun _ hk => hk.2) (.string t472)) (fun _ hk => hk.2) (.int .i64 t473)) (fun _ hk => hk.2) (.string t474)) (fun _ hk => hk.2) (.int .i64 t475)) (fun _ hk => hk.2) (.slice Ao22 t476.length co22)) (fun _ hk => hk.2) (.string t479)) (fun _ h_ => h_.1)))); (case side2 => exact (Kd.R_reads' HO478.out).2.1); (case side3 => exact glob_below HG_.out (by repeat (first | (with_reducible first | exact HB.out | apply below_alloc | apply pw_below_drewN | apply below_drew1 | refine below_set ?_ GE470.out | refine below_set ?_ GE480.out) | exact HB.out))); rintro e w23 ⟨v487, rfl, ho0, hb⟩; refine ⟨_, rfl, ?_⟩; have n0_ := Aside0.mk (Kd.R_elder' (by (with_reducible repeat (first | apply Kd.R_alloc | apply Kd.R_drewN | apply Kd.R_drew)); exact (Kd.R_mono (Kd.R_far (p := ⟨gb480, 6, none⟩) (Kd.R_far (p := ⟨gb480, 5, none⟩) (Kd.R_far (p := ⟨gb480, 4, none⟩) (Kd.R_far (p := ⟨gb480, 3, none⟩) (Kd.R_far (p := ⟨gb480, 2, none⟩) (Kd.R_far (p := ⟨gb480, 1, none⟩) (Kd.R_far (p := ⟨gb480, 0, none⟩) (Kd.R_types HO469.out BK480.out (by decide)) (fun _ hk => hk.2) (.string t471)) (fun _ hk => hk.2) (.string t472)) (fun _ hk => hk.2) (.int .i64 t473)) (fun _ hk => hk.2) (.string t474)) (fun _ hk => hk.2) (.int .i64 t475)) (fun _ hk => hk.2) (.slice Ao22 t476.length co22)) (fun _ hk => hk.2) (.string t479)) (fun _ h_ => h_.1))) (Kd.R_base ho0) hb); have n1_ := Aside0.mk (Kd.R_elder' (by (with_reducible repeat (first | apply Kd.R_alloc | apply Kd.R_drewN | apply Kd.R_drew)); exact (Kd.R_mono (Kd.R_far (p := ⟨gb480, 6, none⟩) (Kd.R_far (p := ⟨gb480, 5, none⟩) (Kd.R_far (p := ⟨gb480, 4, none⟩) (Kd.R_far (p := ⟨gb480, 3, none⟩) (Kd.R_far (p := ⟨gb480, 2, none⟩) (Kd.R_far (p := ⟨gb480, 1, none⟩) (Kd.R_far (p := ⟨gb480, 0, none⟩) (Kd.R_types HO478.out BK480.out (by decide)) (fun _ hk => hk.2) (.string t471)) (fun _ hk => hk.2) (.string t472)) (fun _ hk => hk.2) (.int .i64 t473)) (fun _ hk => hk.2) (.string t474)) (fun _ hk => hk.2) (.int .i64 t475)) (fun _ hk => hk.2) (.slice Ao22 t476.length co22)) (fun _ hk => hk.2) (.string t479)) (fun _ h_ => h_.1))) (Kd.R_base ho0) hb); have n2_ := Aside0.mk (Kd.R_lower (Kd.R_new' (Kd.R_new' ho0 (Kd.R_lt (by (with_reducible repeat (first | apply Kd.R_alloc | apply Kd.R_drewN | apply Kd.R_drew)); exact (Kd.R_mono (Kd.R_far (p := ⟨gb480, 6, none⟩) (Kd.R_far (p := ⟨gb480, 5, none⟩) (Kd.R_far (p := ⟨gb480, 4, none⟩) (Kd.R_far (p := ⟨gb480, 3, none⟩) (Kd.R_far (p := ⟨gb480, 2, none⟩) (Kd.R_far (p := ⟨gb480, 1, none⟩) (Kd.R_far (p := ⟨gb480, 0, none⟩) (Kd.R_types HO469.out BK480.out (by decide)) (fun _ hk => hk.2) (.string t471)) (fun _ hk => hk.2) (.string t472)) (fun _ hk => hk.2) (.int .i64 t473)) (fun _ hk => hk.2) (.string t474)) (fun _ hk => hk.2) (.int .i64 t475)) (fun _ hk => hk.2) (.slice Ao22 t476.length co22)) (fun _ hk => hk.2) (.string t479)) (fun _ h_ => h_.1))))) (Kd.R_lt (by (with_reducible repeat (first | apply Kd.R_alloc | apply Kd.R_drewN | apply Kd.R_drew)); exact (Kd.R_mono (Kd.R_far (p := ⟨gb480, 6, none⟩) (Kd.R_far (p := ⟨gb480, 5, none⟩) (Kd.R_far (p := ⟨gb480, 4, none⟩) (Kd.R_far (p := ⟨gb480, 3, none⟩) (Kd.R_far (p := ⟨gb480, 2, none⟩) (Kd.R_far (p := ⟨gb480, 1, none⟩) (Kd.R_far (p := ⟨gb480, 0, none⟩) (Kd.R_types HO478.out BK480.out (by decide)) (fun _ hk => hk.2) (.string t471)) (fun _ hk => hk.2) (.string t472)) (fun _ hk => hk.2) (.int .i64 t473)) (fun _ hk => hk.2) (.string t474)) (fun _ hk => hk.2) (.int .i64 t475)) (fun _ hk => hk.2) (.slice Ao22 t476.length co22)) (fun _ hk => hk.2) (.string t479)) (fun _ h_ => h_.1))))) (below_size (by repeat (first | (with_reducible first | exact HB.out | apply below_alloc | apply pw_below_drewN | apply below_drew1 | refine below_set ?_ GE470.out | refine below_set ?_ GE480.out) | exact HB.out)))); have n3_ := Aside0.mk (blk_below (g := gb470) (o := .cells #[.string t462, .string t463, .int .i64 t464, .string t465, .int .i64 t466, .slice Ao15 t467.length co15, .string (⟨#[120]⟩ : ByteArray)] 26 (0, 0)) (by (with_reducible repeat (first | refine blk_drewN ?_ _ | refine blk_drew ?_ | refine blk_alloc ?_ _)); refine blk_far ?_ NB470_480.out _; (with_reducible repeat (first | refine blk_drewN ?_ _ | refine blk_drew ?_ | refine blk_alloc ?_ _)); refine blk_far ?_ NB470_480.out _; (with_reducible repeat (first | refine blk_drewN ?_ _ | refine blk_drew ?_ | refine blk_alloc ?_ _)); refine blk_far ?_ NB470_480.out _; (with_reducible repeat (first | refine blk_drewN ?_ _ | refine blk_drew ?_ | refine blk_alloc ?_ _)); refine blk_far ?_ NB470_480.out _; (with_reducible repeat (first | refine blk_drewN ?_ _ | refine blk_drew ?_ | refine blk_alloc ?_ _)); refine blk_far ?_ NB470_480.out _; (with_reducible repeat (first | refine blk_drewN ?_ _ | refine blk_drew ?_ | refine blk_alloc ?_ _)); refine blk_far ?_ NB470_480.out _; (with_reducible repeat (first | refine blk_drewN ?_ _ | refine blk_drew ?_ | refine blk_alloc ?_ _)); refine blk_far ?_ NB470_480.out _; (with_reducible repeat (first | refine blk_drewN ?_ _ | refine blk_drew ?_ | refine blk_alloc ?_ _)); exact BK470.out) hb); have n4_ := Aside0.mk (blk_below (g := gb480) (o := .cells #[.string t471, .string t472, .int .i64 t473, .string t474, .int .i64 t475, .slice Ao22 t476.length co22, .string t479] 26 (0, 0)) (by (with_reducible repeat (first | refine blk_drewN ?_ _ | refine blk_drew ?_ | refine blk_alloc ?_ _)); refine blk_put (cs := #[.string t471, .string t472, .int .i64 t473, .string t474, .int .i64 t475, .slice Ao22 t476.length co22, .string (⟨#[]⟩ : ByteArray)]) ?_ 6 _ rfl; (with_reducible repeat (first | refine blk_drewN ?_ _ | refine blk_drew ?_ | refine blk_alloc ?_ _)); refine blk_put (cs := #[.string t471, .string t472, .int .i64 t473, .string t474, .int .i64 t475, .slice none 0 0, .string (⟨#[]⟩ : ByteArray)]) ?_ 5 _ rfl; (with_reducible repeat (first | refine blk_drewN ?_ _ | refine blk_drew ?_ | refine blk_alloc ?_ _)); refine blk_put (cs := #[.string t471, .string t472, .int .i64 t473, .string t474, .int .i64 0, .slice none 0 0, .string (⟨#[]⟩ : ByteArray)]) ?_ 4 _ rfl; (with_reducible repeat (first | refine blk_drewN ?_ _ | refine blk_drew ?_ | refine blk_alloc ?_ _)); refine blk_put (cs := #[.string t471, .string t472, .int .i64 t473, .string (⟨#[]⟩ : ByteArray), .int .i64 0, .slice none 0 0, .string (⟨#[]⟩ : ByteArray)]) ?_ 3 _ rfl; (with_reducible repeat (first | refine blk_drewN ?_ _ | refine blk_drew ?_ | refine blk_alloc ?_ _)); refine blk_put (cs := #[.string t471, .string t472, .int .i64 0, .string (⟨#[]⟩ : ByteArray), .int .i64 0, .slice none 0 0, .string (⟨#[]⟩ : ByteArray)]) ?_ 2 _ rfl; (with_reducible repeat (first | refine blk_drewN ?_ _ | refine blk_drew ?_ | refine blk_alloc ?_ _)); refine blk_put (cs := #[.string t471, .string (⟨#[]⟩ : ByteArray), .int .i64 0, .string (⟨#[]⟩ : ByteArray), .int .i64 0, .slice none 0 0, .string (⟨#[]⟩ : ByteArray)]) ?_ 1 _ rfl; (with_reducible repeat (first | refine blk_drewN ?_ _ | refine blk_drew ?_ | refine blk_alloc ?_ _)); refine blk_put (cs := #[.string (⟨#[]⟩ : ByteArray), .string (⟨#[]⟩ : ByteArray), .int .i64 0, .string (⟨#[]⟩ : ByteArray), .int .i64 0, .slice none 0 0, .string (⟨#[]⟩ : ByteArray)]) ?_ 0 _ rfl; (with_reducible repeat (first | refine blk_drewN ?_ _ | refine blk_drew ?_ | refine blk_alloc ?_ _)); exact BK480.out) hb); have n5_ := Aside0.mk (below_step (by repeat (first | (with_reducible first | exact HB.out | apply below_alloc | apply pw_below_drewN | apply below_drew1 | refine below_set ?_ GE470.out | refine below_set ?_ GE480.out) | exact HB.out)) hb); clear HO469; clear HO478; clear BK470; clear BK480; clear HB; have HO469 := n0_; have HO478 := n1_; have HO488 := n2_; have BK470 := n3_; have BK480 := n4_; have HB := n5_; clear n0_ n1_ n2_ n3_ n4_ n5_; (try clear hb); (try clear hb2); (try clear hk); (try clear hi); (try clear ho0)) | ((with_reducible refine gate_dst (N := 10) rfl ?_); (try (refine gate_guard (by rfl) ?_; dsimp only)); refine box_event ?hg (N := 10) ?hd (cs := #[.string (⟨#[]⟩ : ByteArray), .string (⟨#[]⟩ : ByteArray), .int .i64 0, .string (⟨#[]⟩ : ByteArray), .int .i64 0, .slice none 0 0, .string (⟨#[]⟩ : ByteArray)]) (t := 26) ?hr ?_; (case hd => rfl); (case hg => rfl); (case hr => first | (go_simp; done) | (go_simp; rfl)); intro gb490 hg w24 hbox hb; have n0_ := Aside0.mk (Kd.R_below (by (with_reducible repeat (first | apply Kd.R_alloc | apply Kd.R_drewN | apply Kd.R_drew)); exact HO469.out) hb); have n1_ := Aside0.mk (Kd.R_below (by (with_reducible repeat (first | apply Kd.R_alloc | apply Kd.R_drewN | apply Kd.R_drew)); exact HO478.out) hb); have n2_ := Aside0.mk (Kd.R_below (by (with_reducible repeat (first | apply Kd.R_alloc | apply Kd.R_drewN | apply Kd.R_drew)); exact HO488.out) hb); have n3_ := Aside0.mk (blk_below (g := gb470) (o := .cells #[.string t462, .string t463, .int .i64 t464, .string t465, .int .i64 t466, .slice Ao15 t467.length co15, .string (⟨#[120]⟩ : ByteArray)] 26 (0, 0)) (by (with_reducible repeat (first | refine blk_drewN ?_ _ | refine blk_drew ?_ | refine blk_alloc ?_ _)); exact BK470.out) hb); have n4_ := Aside0.mk (blk_below (g := gb480) (o := .cells #[.string t471, .string t472, .int .i64 t473, .string t474, .int .i64 t475, .slice Ao22 t476.length co22, .string t479] 26 (0, 0)) (by (with_reducible repeat (first | refine blk_drewN ?_ _ | refine blk_drew ?_ | refine blk_alloc ?_ _)); exact BK480.out) hb); have n5_ := Aside0.mk (below_step (by repeat (first | (with_reducible first | exact HB.out | apply below_alloc | apply pw_below_drewN | apply below_drew1 | refine below_set ?_ GE470.out | refine below_set ?_ GE480.out) | exact HB.out)) hb); have n6_ := Aside0.mk (hbox); have n7_ := Aside0.mk ((by rw [hg]; exact (below_size (by repeat (first | (with_reducible first | exact HB.out | apply below_alloc | apply pw_below_drewN | apply below_drew1 | refine below_set ?_ GE470.out | refine below_set ?_ GE480.out) | exact HB.out))) : w.heap.size ≤ gb490)); have n8_ := Aside0.mk ((by rw [hg]; exact (below_size (by repeat (first | (with_reducible first | exact HB.out | apply below_alloc | apply pw_below_drewN | apply below_drew1 | refine below_set ?_ GE470.out | refine below_set ?_ GE480.out) | exact HB.out))) : w.heap.size ≤ gb490)); have n9_ := Aside0.mk ((by rw [hg]; exact Nat.ne_of_lt (blk_lt (g := gb470) (o := .cells #[.string t462, .string t463, .int .i64 t464, .string t465, .int .i64 t466, .slice Ao15 t467.length co15, .string (⟨#[120]⟩ : ByteArray)] 26 (0, 0)) (by (with_reducible repeat (first | refine blk_drewN ?_ _ | refine blk_drew ?_ | refine blk_alloc ?_ _)); exact BK470.out)) : gb470 ≠ gb490)); have n10_ := Aside0.mk ((by rw [hg]; exact Nat.ne_of_gt (blk_lt (g := gb470) (o := .cells #[.string t462, .string t463, .int .i64 t464, .string t465, .int .i64 t466, .slice Ao15 t467.length co15, .string (⟨#[120]⟩ : ByteArray)] 26 (0, 0)) (by (with_reducible repeat (first | refine blk_drewN ?_ _ | refine blk_drew ?_ | refine blk_alloc ?_ _)); exact BK470.out)) : gb490 ≠ gb470)); have n11_ := Aside0.mk ((by rw [hg]; exact Nat.ne_of_lt (blk_lt (g := gb480) (o := .cells #[.string t471, .string t472, .int .i64 t473, .string t474, .int .i64 t475, .slice Ao22 t476.length co22, .string t479] 26 (0, 0)) (by (with_reducible repeat (first | refine blk_drewN ?_ _ | refine blk_drew ?_ | refine blk_alloc ?_ _)); exact BK480.out)) : gb480 ≠ gb490)); have n12_ := Aside0.mk ((by rw [hg]; exact Nat.ne_of_gt (blk_lt (g := gb480) (o := .cells #[.string t471, .string t472, .int .i64 t473, .string t474, .int .i64 t475, .slice Ao22 t476.length co22, .string t479] 26 (0, 0)) (by (with_reducible repeat (first | refine blk_drewN ?_ _ | refine blk_drew ?_ | refine blk_alloc ?_ _)); exact BK480.out)) : gb490 ≠ gb480)); clear HO469; clear HO478; clear HO488; clear BK470; clear BK480; clear HB; have HO469 := n0_; have HO478 := n1_; have HO488 := n2_; have BK470 := n3_; have BK480 := n4_; have HB := n5_; have BK490 := n6_; have GW490 := n7_; have GE490 := n8_; have NB470_490 := n9_; have NB490_470 := n10_; have NB480_490 := n11_; have NB490_480 := n12_; clear n0_ n1_ n2_ n3_ n4_ n5_ n6_ n7_ n8_ n9_ n10_ n11_ n12_; clear hb hbox hg; have hnb25 := NB490_470.out; have hnc25 := NB470_490.out; have hnb26 := NB490_480.out; have hnc26 := NB480_490.out; have hcz27_0 : w24.cell? ⟨gb490, 0, none⟩ = some (.string (⟨#[]⟩ : ByteArray)) := (blk_cell BK490.out 0).trans rfl; have hcz27_1 : w24.cell? ⟨gb490, 1, none⟩ = some (.string (⟨#[]⟩ : ByteArray)) := (blk_cell BK490.out 1).trans rfl; have hcz27_2 : w24.cell? ⟨gb490, 2, none⟩ = some (.int .i64 0) := (blk_cell BK490.out 2).trans rfl; have hcz27_3 : w24.cell? ⟨gb490, 3, none⟩ = some (.string (⟨#[]⟩ : ByteArray)) := (blk_cell BK490.out 3).trans rfl; have hcz27_4 : w24.cell? ⟨gb490, 4, none⟩ = some (.int .i64 0) := (blk_cell BK490.out 4).trans rfl; have hcz27_5 : w24.cell? ⟨gb490, 5, none⟩ = some (.slice none 0 0) := (blk_cell BK490.out 5).trans rfl; have hcz27_6 : w24.cell? ⟨gb490, 6, none⟩ = some (.string (⟨#[]⟩ : ByteArray)) := (blk_cell BK490.out 6).trans rfl; have hfz27_0 := blk_frozen BK490.out 0; have hfz27_1 := blk_frozen BK490.out 1; have hfz27_2 := blk_frozen BK490.out 2; have hfz27_3 := blk_frozen BK490.out 3; have hfz27_4 := blk_frozen BK490.out 4; have hfz27_5 := blk_frozen BK490.out 5; have hfz27_6 := blk_frozen BK490.out 6; obtain ⟨Ao28, co28, eo28⟩ := Kd.R_slice HO488.out; subst eo28))
    have n0_ : Aside0 (Kd.R k28 28 (((((((w24.setCell ⟨gb490, 0, none⟩ (.string t481)).setCell ⟨gb490, 1, none⟩ (.string t482)).setCell ⟨gb490, 2, none⟩ (.int .i64 t483)).setCell ⟨gb490, 3, none⟩ (.string t484)).setCell ⟨gb490, 4, none⟩ (.int .i64 t485)).setCell ⟨gb490, 5, none⟩ (.slice Ao28 t486.length co28)).setCell ⟨gb490, 6, none⟩ (.string t489)) w.heap.size (fun k_ => some k_ ≠ (.slice Ao22 t476.length co22 : Value).ownBlock ∧ some k_ ≠ (.slice Ao28 t486.length co28 : Value).ownBlock) (.slice Ao15 t467.length co15) t467) := ⟨by (with_reducible repeat (first | apply Kd.R_alloc | apply Kd.R_drewN | apply Kd.R_drew)); exact Kd.R_mono (Kd.R_far (p := ⟨gb490, 6, none⟩) (Kd.R_far (p := ⟨gb490, 5, none⟩) (Kd.R_far (p := ⟨gb490, 4, none⟩) (Kd.R_far (p := ⟨gb490, 3, none⟩) (Kd.R_far (p := ⟨gb490, 2, none⟩) (Kd.R_far (p := ⟨gb490, 1, none⟩) (Kd.R_far (p := ⟨gb490, 0, none⟩) (Kd.R_types HO469.out BK490.out (by decide)) (fun _ hk => hk.2) (.string t481)) (fun _ hk => hk.2) (.string t482)) (fun _ hk => hk.2) (.int .i64 t483)) (fun _ hk => hk.2) (.string t484)) (fun _ hk => hk.2) (.int .i64 t485)) (fun _ hk => hk.2) (.slice Ao28 t486.length co28)) (fun _ hk => hk.2) (.string t489)) (fun _ hk => ⟨hk.1.1.2, hk.1.2⟩)⟩
    have n1_ : Aside0 (Kd.R k28 28 (((((((w24.setCell ⟨gb490, 0, none⟩ (.string t481)).setCell ⟨gb490, 1, none⟩ (.string t482)).setCell ⟨gb490, 2, none⟩ (.int .i64 t483)).setCell ⟨gb490, 3, none⟩ (.string t484)).setCell ⟨gb490, 4, none⟩ (.int .i64 t485)).setCell ⟨gb490, 5, none⟩ (.slice Ao28 t486.length co28)).setCell ⟨gb490, 6, none⟩ (.string t489)) w.heap.size (fun k_ => some k_ ≠ (.slice Ao15 t467.length co15 : Value).ownBlock ∧ some k_ ≠ (.slice Ao28 t486.length co28 : Value).ownBlock) (.slice Ao22 t476.length co22) t476) := ⟨by (with_reducible repeat (first | apply Kd.R_alloc | apply Kd.R_drewN | apply Kd.R_drew)); exact Kd.R_mono (Kd.R_far (p := ⟨gb490, 6, none⟩) (Kd.R_far (p := ⟨gb490, 5, none⟩) (Kd.R_far (p := ⟨gb490, 4, none⟩) (Kd.R_far (p := ⟨gb490, 3, none⟩) (Kd.R_far (p := ⟨gb490, 2, none⟩) (Kd.R_far (p := ⟨gb490, 1, none⟩) (Kd.R_far (p := ⟨gb490, 0, none⟩) (Kd.R_types HO478.out BK490.out (by decide)) (fun _ hk => hk.2) (.string t481)) (fun _ hk => hk.2) (.string t482)) (fun _ hk => hk.2) (.int .i64 t483)) (fun _ hk => hk.2) (.string t484)) (fun _ hk => hk.2) (.int .i64 t485)) (fun _ hk => hk.2) (.slice Ao28 t486.length co28)) (fun _ hk => hk.2) (.string t489)) (fun _ hk => ⟨hk.1.1.2, hk.1.2⟩)⟩
    have n2_ : Aside0 (Kd.R k28 28 (((((((w24.setCell ⟨gb490, 0, none⟩ (.string t481)).setCell ⟨gb490, 1, none⟩ (.string t482)).setCell ⟨gb490, 2, none⟩ (.int .i64 t483)).setCell ⟨gb490, 3, none⟩ (.string t484)).setCell ⟨gb490, 4, none⟩ (.int .i64 t485)).setCell ⟨gb490, 5, none⟩ (.slice Ao28 t486.length co28)).setCell ⟨gb490, 6, none⟩ (.string t489)) w.heap.size (fun k_ => some k_ ≠ (.slice Ao15 t467.length co15 : Value).ownBlock ∧ some k_ ≠ (.slice Ao22 t476.length co22 : Value).ownBlock) (.slice Ao28 t486.length co28) t486) := ⟨by (with_reducible repeat (first | apply Kd.R_alloc | apply Kd.R_drewN | apply Kd.R_drew)); exact Kd.R_mono (Kd.R_far (p := ⟨gb490, 6, none⟩) (Kd.R_far (p := ⟨gb490, 5, none⟩) (Kd.R_far (p := ⟨gb490, 4, none⟩) (Kd.R_far (p := ⟨gb490, 3, none⟩) (Kd.R_far (p := ⟨gb490, 2, none⟩) (Kd.R_far (p := ⟨gb490, 1, none⟩) (Kd.R_far (p := ⟨gb490, 0, none⟩) (Kd.R_types HO488.out BK490.out (by decide)) (fun _ hk => hk.2) (.string t481)) (fun _ hk => hk.2) (.string t482)) (fun _ hk => hk.2) (.int .i64 t483)) (fun _ hk => hk.2) (.string t484)) (fun _ hk => hk.2) (.int .i64 t485)) (fun _ hk => hk.2) (.slice Ao28 t486.length co28)) (fun _ hk => hk.2) (.string t489)) (fun _ hk => ⟨hk.1.1.2, hk.1.2⟩)⟩
    have n3_ : Aside0 ((((((((w24.setCell ⟨gb490, 0, none⟩ (.string t481)).setCell ⟨gb490, 1, none⟩ (.string t482)).setCell ⟨gb490, 2, none⟩ (.int .i64 t483)).setCell ⟨gb490, 3, none⟩ (.string t484)).setCell ⟨gb490, 4, none⟩ (.int .i64 t485)).setCell ⟨gb490, 5, none⟩ (.slice Ao28 t486.length co28)).setCell ⟨gb490, 6, none⟩ (.string t489)).heap[gb470]? = some (.cells #[.string t462, .string t463, .int .i64 t464, .string t465, .int .i64 t466, .slice Ao15 t467.length co15, .string (⟨#[120]⟩ : ByteArray)] 26 (0, 0))) := ⟨by (with_reducible repeat (first | refine blk_drewN ?_ _ | refine blk_drew ?_ | refine blk_alloc ?_ _)); refine blk_far ?_ NB470_490.out _; (with_reducible repeat (first | refine blk_drewN ?_ _ | refine blk_drew ?_ | refine blk_alloc ?_ _)); refine blk_far ?_ NB470_490.out _; (with_reducible repeat (first | refine blk_drewN ?_ _ | refine blk_drew ?_ | refine blk_alloc ?_ _)); refine blk_far ?_ NB470_490.out _; (with_reducible repeat (first | refine blk_drewN ?_ _ | refine blk_drew ?_ | refine blk_alloc ?_ _)); refine blk_far ?_ NB470_490.out _; (with_reducible repeat (first | refine blk_drewN ?_ _ | refine blk_drew ?_ | refine blk_alloc ?_ _)); refine blk_far ?_ NB470_490.out _; (with_reducible repeat (first | refine blk_drewN ?_ _ | refine blk_drew ?_ | refine blk_alloc ?_ _)); refine blk_far ?_ NB470_490.out _; (with_reducible repeat (first | refine blk_drewN ?_ _ | refine blk_drew ?_ | refine blk_alloc ?_ _)); refine blk_far ?_ NB470_490.out _; (with_reducible repeat (first | refine blk_drewN ?_ _ | refine blk_drew ?_ | refine blk_alloc ?_ _)); exact BK470.out⟩
    have n4_ : Aside0 ((((((((w24.setCell ⟨gb490, 0, none⟩ (.string t481)).setCell ⟨gb490, 1, none⟩ (.string t482)).setCell ⟨gb490, 2, none⟩ (.int .i64 t483)).setCell ⟨gb490, 3, none⟩ (.string t484)).setCell ⟨gb490, 4, none⟩ (.int .i64 t485)).setCell ⟨gb490, 5, none⟩ (.slice Ao28 t486.length co28)).setCell ⟨gb490, 6, none⟩ (.string t489)).heap[gb480]? = some (.cells #[.string t471, .string t472, .int .i64 t473, .string t474, .int .i64 t475, .slice Ao22 t476.length co22, .string t479] 26 (0, 0))) := ⟨by (with_reducible repeat (first | refine blk_drewN ?_ _ | refine blk_drew ?_ | refine blk_alloc ?_ _)); refine blk_far ?_ NB480_490.out _; (with_reducible repeat (first | refine blk_drewN ?_ _ | refine blk_drew ?_ | refine blk_alloc ?_ _)); refine blk_far ?_ NB480_490.out _; (with_reducible repeat (first | refine blk_drewN ?_ _ | refine blk_drew ?_ | refine blk_alloc ?_ _)); refine blk_far ?_ NB480_490.out _; (with_reducible repeat (first | refine blk_drewN ?_ _ | refine blk_drew ?_ | refine blk_alloc ?_ _)); refine blk_far ?_ NB480_490.out _; (with_reducible repeat (first | refine blk_drewN ?_ _ | refine blk_drew ?_ | refine blk_alloc ?_ _)); refine blk_far ?_ NB480_490.out _; (with_reducible repeat (first | refine blk_drewN ?_ _ | refine blk_drew ?_ | refine blk_alloc ?_ _)); refine blk_far ?_ NB480_490.out _; (with_reducible repeat (first | refine blk_drewN ?_ _ | refine blk_drew ?_ | refine blk_alloc ?_ _)); refine blk_far ?_ NB480_490.out _; (with_reducible repeat (first | refine blk_drewN ?_ _ | refine blk_drew ?_ | refine blk_alloc ?_ _)); exact BK480.out⟩
    have n5_ : Aside0 ((((((((w24.setCell ⟨gb490, 0, none⟩ (.string t481)).setCell ⟨gb490, 1, none⟩ (.string t482)).setCell ⟨gb490, 2, none⟩ (.int .i64 t483)).setCell ⟨gb490, 3, none⟩ (.string t484)).setCell ⟨gb490, 4, none⟩ (.int .i64 t485)).setCell ⟨gb490, 5, none⟩ (.slice Ao28 t486.length co28)).setCell ⟨gb490, 6, none⟩ (.string t489)).heap[gb490]? = some (.cells #[.string t481, .string t482, .int .i64 t483, .string t484, .int .i64 t485, .slice Ao28 t486.length co28, .string t489] 26 (0, 0))) := ⟨by (with_reducible repeat (first | refine blk_drewN ?_ _ | refine blk_drew ?_ | refine blk_alloc ?_ _)); refine blk_put (cs := #[.string t481, .string t482, .int .i64 t483, .string t484, .int .i64 t485, .slice Ao28 t486.length co28, .string (⟨#[]⟩ : ByteArray)]) ?_ 6 _ rfl; (with_reducible repeat (first | refine blk_drewN ?_ _ | refine blk_drew ?_ | refine blk_alloc ?_ _)); refine blk_put (cs := #[.string t481, .string t482, .int .i64 t483, .string t484, .int .i64 t485, .slice none 0 0, .string (⟨#[]⟩ : ByteArray)]) ?_ 5 _ rfl; (with_reducible repeat (first | refine blk_drewN ?_ _ | refine blk_drew ?_ | refine blk_alloc ?_ _)); refine blk_put (cs := #[.string t481, .string t482, .int .i64 t483, .string t484, .int .i64 0, .slice none 0 0, .string (⟨#[]⟩ : ByteArray)]) ?_ 4 _ rfl; (with_reducible repeat (first | refine blk_drewN ?_ _ | refine blk_drew ?_ | refine blk_alloc ?_ _)); refine blk_put (cs := #[.string t481, .string t482, .int .i64 t483, .string (⟨#[]⟩ : ByteArray), .int .i64 0, .slice none 0 0, .string (⟨#[]⟩ : ByteArray)]) ?_ 3 _ rfl; (with_reducible repeat (first | refine blk_drewN ?_ _ | refine blk_drew ?_ | refine blk_alloc ?_ _)); refine blk_put (cs := #[.string t481, .string t482, .int .i64 0, .string (⟨#[]⟩ : ByteArray), .int .i64 0, .slice none 0 0, .string (⟨#[]⟩ : ByteArray)]) ?_ 2 _ rfl; (with_reducible repeat (first | refine blk_drewN ?_ _ | refine blk_drew ?_ | refine blk_alloc ?_ _)); refine blk_put (cs := #[.string t481, .string (⟨#[]⟩ : ByteArray), .int .i64 0, .string (⟨#[]⟩ : ByteArray), .int .i64 0, .slice none 0 0, .string (⟨#[]⟩ : ByteArray)]) ?_ 1 _ rfl; (with_reducible repeat (first | refine blk_drewN ?_ _ | refine blk_drew ?_ | refine blk_alloc ?_ _)); refine blk_put (cs := #[.string (⟨#[]⟩ : ByteArray), .string (⟨#[]⟩ : ByteArray), .int .i64 0, .string (⟨#[]⟩ : ByteArray), .int .i64 0, .slice none 0 0, .string (⟨#[]⟩ : ByteArray)]) ?_ 0 _ rfl; (with_reducible repeat (first | refine blk_drewN ?_ _ | refine blk_drew ?_ | refine blk_alloc ?_ _)); exact BK490.out⟩
    have n6_ : Aside0 (Below w.heap.size w (((((((w24.setCell ⟨gb490, 0, none⟩ (.string t481)).setCell ⟨gb490, 1, none⟩ (.string t482)).setCell ⟨gb490, 2, none⟩ (.int .i64 t483)).setCell ⟨gb490, 3, none⟩ (.string t484)).setCell ⟨gb490, 4, none⟩ (.int .i64 t485)).setCell ⟨gb490, 5, none⟩ (.slice Ao28 t486.length co28)).setCell ⟨gb490, 6, none⟩ (.string t489))) := ⟨by repeat (first | (with_reducible first | exact HB.out | apply below_alloc | apply pw_below_drewN | apply below_drew1 | refine below_set ?_ GE470.out | refine below_set ?_ GE480.out | refine below_set ?_ GE490.out) | exact HB.out)⟩
    (try clear HO469)
    (try clear HO478)
    (try clear HO488)
    (try clear BK470)
    (try clear BK480)
    (try clear BK490)
    (try clear HB)
    generalize (((((((w24.setCell ⟨gb490, 0, none⟩ (.string t481)).setCell ⟨gb490, 1, none⟩ (.string t482)).setCell ⟨gb490, 2, none⟩ (.int .i64 t483)).setCell ⟨gb490, 3, none⟩ (.string t484)).setCell ⟨gb490, 4, none⟩ (.int .i64 t485)).setCell ⟨gb490, 5, none⟩ (.slice Ao28 t486.length co28)).setCell ⟨gb490, 6, none⟩ (.string t489)) = w29 at n0_ n1_ n2_ n3_ n4_ n5_ n6_ ⊢
    have HO469 := n0_
    have HO478 := n1_
    have HO488 := n2_
    have BK470 := n3_
    have BK480 := n4_
    have BK490 := n5_
    have HB := n6_
    clear n0_ n1_ n2_ n3_ n4_ n5_ n6_
    have n0_ := Aside0.mk (Kd.R_drew HO469.out)
    have n1_ := Aside0.mk (Kd.R_drew HO478.out)
    have n2_ := Aside0.mk (Kd.R_drew HO488.out)
    have n3_ := Aside0.mk (blk_drew BK470.out)
    have n4_ := Aside0.mk (blk_drew BK480.out)
    have n5_ := Aside0.mk (blk_drew BK490.out)
    have n6_ := Aside0.mk (below_drew1 HB.out)
    clear HO469
    clear HO478
    clear HO488
    clear BK470
    clear BK480
    clear BK490
    clear HB
    have HO469 := n0_
    have HO478 := n1_
    have HO488 := n2_
    have BK470 := n3_
    have BK480 := n4_
    have BK490 := n5_
    have HB := n6_
    clear n0_ n1_ n2_ n3_ n4_ n5_ n6_
    refine start_ (n := 10) (S := fun w' => w'.cell? ⟨gb480, 0, none⟩ = some (.string t471) ∧ w'.cell? ⟨gb480, 1, none⟩ = some (.string t472) ∧ w'.cell? ⟨gb480, 2, none⟩ = some (.int .i64 t473) ∧ w'.cell? ⟨gb480, 3, none⟩ = some (.string t474) ∧ w'.cell? ⟨gb480, 4, none⟩ = some (.int .i64 t475) ∧ w'.cell? ⟨gb480, 5, none⟩ = some (.slice Ao22 t476.length co22) ∧ w'.cell? ⟨gb480, 6, none⟩ = some (.string t479) ∧ w'.cell? ⟨gb490, 0, none⟩ = some (.string t481) ∧ w'.cell? ⟨gb490, 1, none⟩ = some (.string t482) ∧ w'.cell? ⟨gb490, 2, none⟩ = some (.int .i64 t483) ∧ w'.cell? ⟨gb490, 3, none⟩ = some (.string t484) ∧ w'.cell? ⟨gb490, 4, none⟩ = some (.int .i64 t485) ∧ w'.cell? ⟨gb490, 5, none⟩ = some (.slice Ao28 t486.length co28) ∧ w'.cell? ⟨gb490, 6, none⟩ = some (.string t489)) (ds := []) #[false, false, false, false, false, false, false, false, false, false] (by kernel_rfl) rfl rfl ⟨(blk_cell BK480.out 0).trans rfl, (blk_cell BK480.out 1).trans rfl, (blk_cell BK480.out 2).trans rfl, (blk_cell BK480.out 3).trans rfl, (blk_cell BK480.out 4).trans rfl, (blk_cell BK480.out 5).trans rfl, (blk_cell BK480.out 6).trans rfl, (blk_cell BK490.out 0).trans rfl, (blk_cell BK490.out 1).trans rfl, (blk_cell BK490.out 2).trans rfl, (blk_cell BK490.out 3).trans rfl, (blk_cell BK490.out 4).trans rfl, (blk_cell BK490.out 5).trans rfl, (blk_cell BK490.out 6).trans rfl⟩ (fun hHeld => ?_); refine with_tabW lockagelaw15_ForwardTwice.tab7 lockagelaw15_ForwardTwice.bits7 (fun HT_ HW_ => ?_)
    generalize w29.drew = w30 at HO469 HO478 HO488 BK470 BK480 BK490 HB hHeld ⊢
    refine pure_ (i := 0) (N := some 29) (v := ?_) (a' := ?_) #[true, false, false, false, false, false, false, false, false, false] rfl rfl (any_of HT_.out (by kernel_rfl)) (fun _ _ _ h => h) (Or.inl ⟨by rfl, ?_⟩) ?_ ?_
    rotate_left
    · intro w'
      go_simp
      with_reducible rfl
    rotate_left
    · simp only [Act.put, List.setIfInBounds_toArray, List.set_cons_zero, List.set_cons_succ, i64_w, i32_w]
      rfl
    refine pure_ (i := 1) (N := some 30) (v := ?_) (a' := ?_) #[true, true, false, false, false, false, false, false, false, false] rfl rfl (any_of HT_.out (by kernel_rfl)) (fun _ _ _ h => h) (Or.inl ⟨by rfl, ?_⟩) ?_ ?_
    rotate_left
    · intro w'
      go_simp
      with_reducible rfl
    rotate_left
    · simp only [Act.put, List.setIfInBounds_toArray, List.set_cons_zero, List.set_cons_succ, i64_w, i32_w]
      rfl
    refine pure_ (i := 4) (N := some 33) (v := ?_) (a' := ?_) #[true, true, false, false, true, false, false, false, false, false] rfl rfl (any_of HT_.out (by kernel_rfl)) (fun _ _ _ h => h) (Or.inl ⟨by rfl, ?_⟩) ?_ ?_
    rotate_left
    · intro w'
      go_simp
      with_reducible rfl
    rotate_left
    · simp only [Act.put, List.setIfInBounds_toArray, List.set_cons_zero, List.set_cons_succ, i64_w, i32_w]
      rfl
    refine pure_ (i := 5) (N := some 34) (v := ?_) (a' := ?_) #[true, true, false, false, true, true, false, false, false, false] rfl rfl (any_of HT_.out (by kernel_rfl)) (fun _ _ _ h => h) (Or.inl ⟨by rfl, ?_⟩) ?_ ?_
    rotate_left
    · intro w'
      go_simp
      with_reducible rfl
    rotate_left
    · simp only [Act.put, List.setIfInBounds_toArray, List.set_cons_zero, List.set_cons_succ, i64_w, i32_w]
      rfl
    refine take_ (i := 2) (N := some 31) (v := ?_) (a' := ?_) #[true, true, true, false, true, true, false, false, false, false] rfl rfl (take_ofW HT_.out HW_.out (by kernel_rfl)) (fun _ _ _ h => h) (Or.inl ⟨by rfl, ?_⟩) hHeld ?_ ?_
    rotate_left
    · rintro w' ⟨s0, s1, s2, s3, s4, s5, s6, s7, s8, s9, s10, s11, s12, s13⟩
      go_simp
      with_reducible rfl
    rotate_left
    · simp only [Act.put, List.setIfInBounds_toArray, List.set_cons_zero, List.set_cons_succ, i64_w, i32_w]
      rfl
    refine take_ (i := 6) (N := some 35) (v := ?_) (a' := ?_) #[true, true, true, false, true, true, true, false, false, false] rfl rfl (take_ofW HT_.out HW_.out (by kernel_rfl)) (fun _ _ _ h => h) (Or.inl ⟨by rfl, ?_⟩) hHeld ?_ ?_
    rotate_left
    · rintro w' ⟨s0, s1, s2, s3, s4, s5, s6, s7, s8, s9, s10, s11, s12, s13⟩
      go_simp
      with_reducible rfl
    rotate_left
    · simp only [Act.put, List.setIfInBounds_toArray, List.set_cons_zero, List.set_cons_succ, i64_w, i32_w]
      rfl
    refine one_ (i := 3) (N := some 32) #[true, true, true, true, true, true, true, false, false, false] rfl rfl (one_of HT_.out (by kernel_rfl)) (by decide) (fun K hK => ?_)
    refine goes_ Tryd.func15 (by kernel_rfl) rfl #[.slice Ao22 t476.length co22, .string (⟨#[120, 45, 102, 111, 114, 119, 97, 114, 100, 101, 100, 45, 102, 111, 114]⟩ : ByteArray)] (by rfl) rfl rfl (by (try simp only [List.map_toArray, List.map_cons, List.map_nil]); first | done | rfl | (simp only [List.length_drop, List.length_take]; rfl)) ?_
    with_reducible refine (lockageref05_Get.calls k _ _ t476 (⟨#[120, 45, 102, 111, 114, 119, 97, 114, 100, 101, 100, 45, 102, 111, 114]⟩ : ByteArray) t491 _ ?side1 ?side2 A9.out).mono ?_
    (case side1 => repeat (first | exact (Kd.R_reads' HO478.out).2.2 | (with_reducible refine Kd.C_alloc ?_ _) | (with_reducible refine Kd.C_drewN ?_ _) | (with_reducible refine Kd.C_drew ?_)))
    (case side2 => exact (Kd.R_reads' HO478.out).2.1)
    rintro e w31 ⟨v492, rfl, ho0, hb⟩
    refine ⟨_, rfl, ?_⟩
    have n0_ := Aside0.mk (Kd.R_below (by (with_reducible repeat (first | apply Kd.R_alloc | apply Kd.R_drewN | apply Kd.R_drew)); exact HO469.out) hb)
    have n1_ := Aside0.mk (Kd.R_below (by (with_reducible repeat (first | apply Kd.R_alloc | apply Kd.R_drewN | apply Kd.R_drew)); exact HO478.out) hb)
    have n2_ := Aside0.mk (Kd.R_below (by (with_reducible repeat (first | apply Kd.R_alloc | apply Kd.R_drewN | apply Kd.R_drew)); exact HO488.out) hb)
    have n3_ := Aside0.mk (Kd.R_lower ho0 (below_size (by repeat (first | (with_reducible first | exact HB.out | apply below_alloc | apply pw_below_drewN | apply below_drew1 | refine below_set ?_ GE470.out | refine below_set ?_ GE480.out | refine below_set ?_ GE490.out) | exact HB.out))))
    have n4_ := Aside0.mk (blk_below (g := gb470) (o := .cells #[.string t462, .string t463, .int .i64 t464, .string t465, .int .i64 t466, .slice Ao15 t467.length co15, .string (⟨#[120]⟩ : ByteArray)] 26 (0, 0)) (by (with_reducible repeat (first | refine blk_drewN ?_ _ | refine blk_drew ?_ | refine blk_alloc ?_ _)); exact BK470.out) hb)
    have n5_ := Aside0.mk (blk_below (g := gb480) (o := .cells #[.string t471, .string t472, .int .i64 t473, .string t474, .int .i64 t475, .slice Ao22 t476.length co22, .string t479] 26 (0, 0)) (by (with_reducible repeat (first | refine blk_drewN ?_ _ | refine blk_drew ?_ | refine blk_alloc ?_ _)); exact BK480.out) hb)
    have n6_ := Aside0.mk (blk_below (g := gb490) (o := .cells #[.string t481, .string t482, .int .i64 t483, .string t484, .int .i64 t485, .slice Ao28 t486.length co28, .string t489] 26 (0, 0)) (by (with_reducible repeat (first | refine blk_drewN ?_ _ | refine blk_drew ?_ | refine blk_alloc ?_ _)); exact BK490.out) hb)
    have n7_ := Aside0.mk (below_step (by repeat (first | (with_reducible first | exact HB.out | apply below_alloc | apply pw_below_drewN | apply below_drew1 | refine below_set ?_ GE470.out | refine below_set ?_ GE480.out | refine below_set ?_ GE490.out) | exact HB.out)) hb)
    clear HO469
    clear HO478
    clear HO488
    clear BK470
    clear BK480
    clear BK490
    clear HB
    have HO469 := n0_
    have HO478 := n1_
    have HO488 := n2_
    have HO493 := n3_
    have BK470 := n4_
    have BK480 := n5_
    have BK490 := n6_
    have HB := n7_
    clear n0_ n1_ n2_ n3_ n4_ n5_ n6_ n7_
    (try clear hb)
    (try clear hb2)
    (try clear hk)
    (try clear hi)
    (try clear ho0)
    refine hK.out _ _ ⟨(blk_cell BK480.out 0).trans rfl, (blk_cell BK480.out 1).trans rfl, (blk_cell BK480.out 2).trans rfl, (blk_cell BK480.out 3).trans rfl, (blk_cell BK480.out 4).trans rfl, (blk_cell BK480.out 5).trans rfl, (blk_cell BK480.out 6).trans rfl, (blk_cell BK490.out 0).trans rfl, (blk_cell BK490.out 1).trans rfl, (blk_cell BK490.out 2).trans rfl, (blk_cell BK490.out 3).trans rfl, (blk_cell BK490.out 4).trans rfl, (blk_cell BK490.out 5).trans rfl, (blk_cell BK490.out 6).trans rfl⟩ (fun hHeld => ?_)
    clear hK K
    refine norm_ (a' := ?_) ?_ ?_
    rotate_left
    · show Act.put _ (some 32) _ = _
      simp only [Act.put, List.setIfInBounds_toArray, List.set_cons_zero, List.set_cons_succ, i64_w, i32_w]
      rfl
    refine one_ (i := 7) (N := some 36) #[true, true, true, true, true, true, true, true, false, false] rfl rfl (one_of HT_.out (by kernel_rfl)) (by decide) (fun K hK => ?_)
    refine goes_ Tryd.func15 (by kernel_rfl) rfl #[.slice Ao28 t486.length co28, .string (⟨#[120, 45, 102, 111, 114, 119, 97, 114, 100, 101, 100, 45, 102, 111, 114]⟩ : ByteArray)] (by rfl) rfl rfl (by (try simp only [List.map_toArray, List.map_cons, List.map_nil]); first | done | rfl | (simp only [List.length_drop, List.length_take]; rfl)) ?_
    with_reducible refine (lockageref05_Get.calls k _ _ t486 (⟨#[120, 45, 102, 111, 114, 119, 97, 114, 100, 101, 100, 45, 102, 111, 114]⟩ : ByteArray) t494 _ ?side1 ?side2 A10.out).mono ?_
    (case side1 => repeat (first | exact (Kd.R_reads' HO488.out).2.2 | (with_reducible refine Kd.C_alloc ?_ _) | (with_reducible refine Kd.C_drewN ?_ _) | (with_reducible refine Kd.C_drew ?_)))
    (case side2 => exact (Kd.R_reads' HO488.out).2.1)
    rintro e w32 ⟨v495, rfl, ho0, hb⟩
    refine ⟨_, rfl, ?_⟩
    have n0_ := Aside0.mk (Kd.R_below (by (with_reducible repeat (first | apply Kd.R_alloc | apply Kd.R_drewN | apply Kd.R_drew)); exact HO469.out) hb)
    have n1_ := Aside0.mk (Kd.R_below (by (with_reducible repeat (first | apply Kd.R_alloc | apply Kd.R_drewN | apply Kd.R_drew)); exact HO478.out) hb)
    have n2_ := Aside0.mk (Kd.R_below (by (with_reducible repeat (first | apply Kd.R_alloc | apply Kd.R_drewN | apply Kd.R_drew)); exact HO488.out) hb)
    have n3_ := Aside0.mk (Kd.R_elder' (by (with_reducible repeat (first | apply Kd.R_alloc | apply Kd.R_drewN | apply Kd.R_drew)); exact HO493.out) (Kd.R_base ho0) hb)
    have n4_ := Aside0.mk (Kd.R_lower (Kd.R_new' ho0 (Kd.R_lt (by (with_reducible repeat (first | apply Kd.R_alloc | apply Kd.R_drewN | apply Kd.R_drew)); exact HO493.out))) (below_size (by repeat (first | (with_reducible first | exact HB.out | apply below_alloc | apply pw_below_drewN | apply below_drew1 | refine below_set ?_ GE470.out | refine below_set ?_ GE480.out | refine below_set ?_ GE490.out) | exact HB.out))))
    have n5_ := Aside0.mk (blk_below (g := gb470) (o := .cells #[.string t462, .string t463, .int .i64 t464, .string t465, .int .i64 t466, .slice Ao15 t467.length co15, .string (⟨#[120]⟩ : ByteArray)] 26 (0, 0)) (by (with_reducible repeat (first | refine blk_drewN ?_ _ | refine blk_drew ?_ | refine blk_alloc ?_ _)); exact BK470.out) hb)
    have n6_ := Aside0.mk (blk_below (g := gb480) (o := .cells #[.string t471, .string t472, .int .i64 t473, .string t474, .int .i64 t475, .slice Ao22 t476.length co22, .string t479] 26 (0, 0)) (by (with_reducible repeat (first | refine blk_drewN ?_ _ | refine blk_drew ?_ | refine blk_alloc ?_ _)); exact BK480.out) hb)
    have n7_ := Aside0.mk (blk_below (g := gb490) (o := .cells #[.string t481, .string t482, .int .i64 t483, .string t484, .int .i64 t485, .slice Ao28 t486.length co28, .string t489] 26 (0, 0)) (by (with_reducible repeat (first | refine blk_drewN ?_ _ | refine blk_drew ?_ | refine blk_alloc ?_ _)); exact BK490.out) hb)
    have n8_ := Aside0.mk (below_step (by repeat (first | (with_reducible first | exact HB.out | apply below_alloc | apply pw_below_drewN | apply below_drew1 | refine below_set ?_ GE470.out | refine below_set ?_ GE480.out | refine below_set ?_ GE490.out) | exact HB.out)) hb)
    clear HO469
    clear HO478
    clear HO488
    clear HO493
    clear BK470
    clear BK480
    clear BK490
    clear HB
    have HO469 := n0_
    have HO478 := n1_
    have HO488 := n2_
    have HO493 := n3_
    have HO496 := n4_
    have BK470 := n5_
    have BK480 := n6_
    have BK490 := n7_
    have HB := n8_
    clear n0_ n1_ n2_ n3_ n4_ n5_ n6_ n7_ n8_
    (try clear hb)
    (try clear hb2)
    (try clear hk)
    (try clear hi)
    (try clear ho0)
    refine hK.out _ _ ⟨(blk_cell BK480.out 0).trans rfl, (blk_cell BK480.out 1).trans rfl, (blk_cell BK480.out 2).trans rfl, (blk_cell BK480.out 3).trans rfl, (blk_cell BK480.out 4).trans rfl, (blk_cell BK480.out 5).trans rfl, (blk_cell BK480.out 6).trans rfl, (blk_cell BK490.out 0).trans rfl, (blk_cell BK490.out 1).trans rfl, (blk_cell BK490.out 2).trans rfl, (blk_cell BK490.out 3).trans rfl, (blk_cell BK490.out 4).trans rfl, (blk_cell BK490.out 5).trans rfl, (blk_cell BK490.out 6).trans rfl⟩ (fun hHeld => ?_)
    clear hK K
    refine norm_ (a' := ?_) ?_ ?_
    rotate_left
    · show Act.put _ (some 36) _ = _
      simp only [Act.put, List.setIfInBounds_toArray, List.set_cons_zero, List.set_cons_succ, i64_w, i32_w]
      rfl
    refine pure_ (i := 8) (N := some 11) (v := ?_) (a' := ?_) #[true, true, true, true, true, true, true, true, true, false] rfl rfl (any_of HT_.out (by kernel_rfl)) (fun _ _ _ h => h) (Or.inl ⟨by rfl, ?_⟩) ?_ ?_
    rotate_left
    · intro w'
      go_simp
      with_reducible rfl
    rotate_left
    · simp only [Act.put, List.setIfInBounds_toArray, List.set_cons_zero, List.set_cons_succ, i64_w, i32_w]
      rfl
    refine pure_ (i := 9) (N := some 12) (v := ?_) (a' := ?_) #[true, true, true, true, true, true, true, true, true, true] rfl rfl (any_of HT_.out (by kernel_rfl)) (fun _ _ _ h => h) (Or.inl ⟨by rfl, ?_⟩) ?_ ?_
    rotate_left
    · intro w'
      go_simp
      with_reducible rfl
    rotate_left
    · simp only [Act.put, List.setIfInBounds_toArray, List.set_cons_zero, List.set_cons_succ, i64_w, i32_w]
      rfl
    refine done_ (done_of HT_.out (by kernel_rfl)) ?_
    go_upto_region 9 with (first | ((with_reducible refine gate_callee (f := 10) rfl ?_); refine goesL_ (some 40) rfl rfl Tryd.func10 (by kernel_rfl) rfl #[.agg #[.string (⟨#[]⟩ : ByteArray), .string (⟨#[]⟩ : ByteArray), .int .i64 0, .string (⟨#[]⟩ : ByteArray), .int .i64 0, .slice none 0 0, .string (⟨#[]⟩ : ByteArray)], .int .i64 (wrap64 (a2))] rfl (by (try simp only [List.map_toArray, List.map_cons, List.map_nil]); first | done | rfl | (simp only [List.length_drop, List.length_take]; rfl)) ?_; (refine (forward_Request.calls k (⟨#[]⟩ : ByteArray) (⟨#[]⟩ : ByteArray) 0 (⟨#[]⟩ : ByteArray) 0 _ _ ([] : List (S28)) (⟨#[]⟩ : ByteArray) (wrap64 (a2)) t497 t498 t499 t500 t501 t502 t505 _ ?side1 ?side2 ?side3 A11.out).mono ?_); (case side1 => exact Kd.C_nil _ _); (case side2 => exact Nat.le_refl _); (case side3 => exact glob_below HG_.out (by repeat (first | (with_reducible first | exact HB.out | apply below_alloc | apply pw_below_drewN | apply below_drew1 | refine below_set ?_ GE470.out | refine below_set ?_ GE480.out | refine below_set ?_ GE490.out) | exact HB.out))); rintro e w33 ⟨v503, rfl, ho0, hb⟩; refine ⟨_, rfl, ?_⟩; have n0_ := Aside0.mk (Kd.R_elder' (by (with_reducible repeat (first | apply Kd.R_alloc | apply Kd.R_drewN | apply Kd.R_drew)); exact HO469.out) (Kd.R_base ho0) hb); have n1_ := Aside0.mk (Kd.R_elder' (by (with_reducible repeat (first | apply Kd.R_alloc | apply Kd.R_drewN | apply Kd.R_drew)); exact HO478.out) (Kd.R_base ho0) hb); have n2_ := Aside0.mk (Kd.R_elder' (by (with_reducible repeat (first | apply Kd.R_alloc | apply Kd.R_drewN | apply Kd.R_drew)); exact HO488.out) (Kd.R_base ho0) hb); have n3_ := Aside0.mk (Kd.R_below (by (with_reducible repeat (first | apply Kd.R_alloc | apply Kd.R_drewN | apply Kd.R_drew)); exact HO493.out) hb); have n4_ := Aside0.mk (Kd.R_below (by (with_reducible repeat (first | apply Kd.R_alloc | apply Kd.R_drewN | apply Kd.R_drew)); exact HO496.out) hb); have n5_ := Aside0.mk (Kd.R_lower (Kd.R_new' (Kd.R_new' (Kd.R_new' ho0 (Kd.R_lt (by (with_reducible repeat (first | apply Kd.R_alloc | apply Kd.R_drewN | apply Kd.R_drew)); exact HO469.out))) (Kd.R_lt (by (with_reducible repeat (first | apply Kd.R_alloc | apply Kd.R_drewN | apply Kd.R_drew)); exact HO478.out))) (Kd.R_lt (by (with_reducible repeat (first | apply Kd.R_alloc | apply Kd.R_drewN | apply Kd.R_drew)); exact HO488.out))) (below_size (by repeat (first | (with_reducible first | exact HB.out | apply below_alloc | apply pw_below_drewN | apply below_drew1 | refine below_set ?_ GE470.out | refine below_set ?_ GE480.out | refine below_set ?_ GE490.out) | exact HB.out)))); have n6_ := Aside0.mk (blk_below (g := gb470) (o := .cells #[.string t462, .string t463, .int .i64 t464, .string t465, .int .i64 t466, .slice Ao15 t467.length co15, .string (⟨#[120]⟩ : ByteArray)] 26 (0, 0)) (by (with_reducible repeat (first | refine blk_drewN ?_ _ | refine blk_drew ?_ | refine blk_alloc ?_ _)); exact BK470.out) hb); have n7_ := Aside0.mk (blk_below (g := gb480) (o := .cells #[.string t471, .string t472, .int .i64 t473, .string t474, .int .i64 t475, .slice Ao22 t476.length co22, .string t479] 26 (0, 0)) (by (with_reducible repeat (first | refine blk_drewN ?_ _ | refine blk_drew ?_ | refine blk_alloc ?_ _)); exact BK480.out) hb); have n8_ := Aside0.mk (blk_below (g := gb490) (o := .cells #[.string t481, .string t482, .int .i64 t483, .string t484, .int .i64 t485, .slice Ao28 t486.length co28, .string t489] 26 (0, 0)) (by (with_reducible repeat (first | refine blk_drewN ?_ _ | refine blk_drew ?_ | refine blk_alloc ?_ _)); exact BK490.out) hb); have n9_ := Aside0.mk (below_step (by repeat (first | (with_reducible first | exact HB.out | apply below_alloc | apply pw_below_drewN | apply below_drew1 | refine below_set ?_ GE470.out | refine below_set ?_ GE480.out | refine below_set ?_ GE490.out) | exact HB.out)) hb); clear HO469; clear HO478; clear HO488; clear HO493; clear HO496; clear BK470; clear BK480; clear BK490; clear HB; have HO469 := n0_; have HO478 := n1_; have HO488 := n2_; have HO493 := n3_; have HO496 := n4_; have HO504 := n5_; have BK470 := n6_; have BK480 := n7_; have BK490 := n8_; have HB := n9_; clear n0_ n1_ n2_ n3_ n4_ n5_ n6_ n7_ n8_ n9_; (try clear hb); (try clear hb2); (try clear hk); (try clear hi); (try clear ho0)) | ((with_reducible refine gate_dst (N := 13) rfl ?_); (try (refine gate_guard (by rfl) ?_; dsimp only)); refine box_event ?hg (N := 13) ?hd (cs := #[.string (⟨#[]⟩ : ByteArray), .string (⟨#[]⟩ : ByteArray), .int .i64 0, .string (⟨#[]⟩ : ByteArray), .int .i64 0, .slice none 0 0, .string (⟨#[]⟩ : ByteArray)]) (t := 26) ?hr ?_; (case hd => rfl); (case hg => rfl); (case hr => first | (go_simp; done) | (go_simp; rfl)); intro gb506 hg w34 hbox hb; have n0_ := Aside0.mk (Kd.R_below (by (with_reducible repeat (first | apply Kd.R_alloc | apply Kd.R_drewN | apply Kd.R_drew)); exact HO469.out) hb); have n1_ := Aside0.mk (Kd.R_below (by (with_reducible repeat (first | apply Kd.R_alloc | apply Kd.R_drewN | apply Kd.R_drew)); exact HO478.out) hb); have n2_ := Aside0.mk (Kd.R_below (by (with_reducible repeat (first | apply Kd.R_alloc | apply Kd.R_drewN | apply Kd.R_drew)); exact HO488.out) hb); have n3_ := Aside0.mk (Kd.R_below (by (with_reducible repeat (first | apply Kd.R_alloc | apply Kd.R_drewN | apply Kd.R_drew)); exact HO493.out) hb); have n4_ := Aside0.mk (Kd.R_below (by (with_reducible repeat (first | apply Kd.R_alloc | apply Kd.R_drewN | apply Kd.R_drew)); exact HO496.out) hb); have n5_ := Aside0.mk (Kd.R_below (by (with_reducible repeat (first | apply Kd.R_alloc | apply Kd.R_drewN | apply Kd.R_drew)); exact HO504.out) hb); have n6_ := Aside0.mk (blk_below (g := gb470) (o := .cells #[.string t462, .string t463, .int .i64 t464, .string t465, .int .i64 t466, .slice Ao15 t467.length co15, .string (⟨#[120]⟩ : ByteArray)] 26 (0, 0)) (by (with_reducible repeat (first | refine blk_drewN ?_ _ | refine blk_drew ?_ | refine blk_alloc ?_ _)); exact BK470.out) hb); have n7_ := Aside0.mk (blk_below (g := gb480) (o := .cells #[.string t471, .string t472, .int .i64 t473, .string t474, .int .i64 t475, .slice Ao22 t476.length co22, .string t479] 26 (0, 0)) (by (with_reducible repeat (first | refine blk_drewN ?_ _ | refine blk_drew ?_ | refine blk_alloc ?_ _)); exact BK480.out) hb); have n8_ := Aside0.mk (blk_below (g := gb490) (o := .cells #[.string t481, .string t482, .int .i64 t483, .string t484, .int .i64 t485, .slice Ao28 t486.length co28, .string t489] 26 (0, 0)) (by (with_reducible repeat (first | refine blk_drewN ?_ _ | refine blk_drew ?_ | refine blk_alloc ?_ _)); exact BK490.out) hb); have n9_ := Aside0.mk (below_step (by repeat (first | (with_reducible first | exact HB.out | apply below_alloc | apply pw_below_drewN | apply below_drew1 | refine below_set ?_ GE470.out | refine below_set ?_ GE480.out | refine below_set ?_ GE490.out) | exact HB.out)) hb); have n10_ := Aside0.mk (hbox); have n11_ := Aside0.mk ((by rw [hg]; exact (below_size (by repeat (first | (with_reducible first | exact HB.out | apply below_alloc | apply pw_below_drewN | apply below_drew1 | refine below_set ?_ GE470.out | refine below_set ?_ GE480.out | refine below_set ?_ GE490.out) | exact HB.out))) : w.heap.size ≤ gb506)); have n12_ := Aside0.mk ((by rw [hg]; exact (below_size (by repeat (first | (with_reducible first | exact HB.out | apply below_alloc | apply pw_below_drewN | apply below_drew1 | refine below_set ?_ GE470.out | refine below_set ?_ GE480.out | refine below_set ?_ GE490.out) | exact HB.out))) : w.heap.size ≤ gb506)); have n13_ := Aside0.mk ((by rw [hg]; exact Nat.ne_of_lt (blk_lt (g := gb470) (o := .cells #[.string t462, .string t463, .int .i64 t464, .string t465, .int .i64 t466, .slice Ao15 t467.length co15, .string (⟨#[120]⟩ : ByteArray)] 26 (0, 0)) (by (with_reducible repeat (first | refine blk_drewN ?_ _ | refine blk_drew ?_ | refine blk_alloc ?_ _)); exact BK470.out)) : gb470 ≠ gb506)); have n14_ := Aside0.mk ((by rw [hg]; exact Nat.ne_of_gt (blk_lt (g := gb470) (o := .cells #[.string t462, .string t463, .int .i64 t464, .string t465, .int .i64 t466, .slice Ao15 t467.length co15, .string (⟨#[120]⟩ : ByteArray)] 26 (0, 0)) (by (with_reducible repeat (first | refine blk_drewN ?_ _ | refine blk_drew ?_ | refine blk_alloc ?_ _)); exact BK470.out)) : gb506 ≠ gb470)); have n15_ := Aside0.mk ((by rw [hg]; exact Nat.ne_of_lt (blk_lt (g := gb480) (o := .cells #[.string t471, .string t472, .int .i64 t473, .string t474, .int .i64 t475, .slice Ao22 t476.length co22, .string t479] 26 (0, 0)) (by (with_reducible repeat (first | refine blk_drewN ?_ _ | refine blk_drew ?_ | refine blk_alloc ?_ _)); exact BK480.out)) : gb480 ≠ gb506)); have n16_ := Aside0.mk ((by rw [hg]; exact Nat.ne_of_gt (blk_lt (g := gb480) (o := .cells #[.string t471, .string t472, .int .i64 t473, .string t474, .int .i64 t475, .slice Ao22 t476.length co22, .string t479] 26 (0, 0)) (by (with_reducible repeat (first | refine blk_drewN ?_ _ | refine blk_drew ?_ | refine blk_alloc ?_ _)); exact BK480.out)) : gb506 ≠ gb480)); have n17_ := Aside0.mk ((by rw [hg]; exact Nat.ne_of_lt (blk_lt (g := gb490) (o := .cells #[.string t481, .string t482, .int .i64 t483, .string t484, .int .i64 t485, .slice Ao28 t486.length co28, .string t489] 26 (0, 0)) (by (with_reducible repeat (first | refine blk_drewN ?_ _ | refine blk_drew ?_ | refine blk_alloc ?_ _)); exact BK490.out)) : gb490 ≠ gb506)); have n18_ := Aside0.mk ((by rw [hg]; exact Nat.ne_of_gt (blk_lt (g := gb490) (o := .cells #[.string t481, .string t482, .int .i64 t483, .string t484, .int .i64 t485, .slice Ao28 t486.length co28, .string t489] 26 (0, 0)) (by (with_reducible repeat (first | refine blk_drewN ?_ _ | refine blk_drew ?_ | refine blk_alloc ?_ _)); exact BK490.out)) : gb506 ≠ gb490)); clear HO469; clear HO478; clear HO488; clear HO493; clear HO496; clear HO504; clear BK470; clear BK480; clear BK490; clear HB; have HO469 := n0_; have HO478 := n1_; have HO488 := n2_; have HO493 := n3_; have HO496 := n4_; have HO504 := n5_; have BK470 := n6_; have BK480 := n7_; have BK490 := n8_; have HB := n9_; have BK506 := n10_; have GW506 := n11_; have GE506 := n12_; have NB470_506 := n13_; have NB506_470 := n14_; have NB480_506 := n15_; have NB506_480 := n16_; have NB490_506 := n17_; have NB506_490 := n18_; clear n0_ n1_ n2_ n3_ n4_ n5_ n6_ n7_ n8_ n9_ n10_ n11_ n12_ n13_ n14_ n15_ n16_ n17_ n18_; clear hb hbox hg; have hnb35 := NB506_470.out; have hnc35 := NB470_506.out; have hnb36 := NB506_480.out; have hnc36 := NB480_506.out; have hnb37 := NB506_490.out; have hnc37 := NB490_506.out; have hcz38_0 : w34.cell? ⟨gb506, 0, none⟩ = some (.string (⟨#[]⟩ : ByteArray)) := (blk_cell BK506.out 0).trans rfl; have hcz38_1 : w34.cell? ⟨gb506, 1, none⟩ = some (.string (⟨#[]⟩ : ByteArray)) := (blk_cell BK506.out 1).trans rfl; have hcz38_2 : w34.cell? ⟨gb506, 2, none⟩ = some (.int .i64 0) := (blk_cell BK506.out 2).trans rfl; have hcz38_3 : w34.cell? ⟨gb506, 3, none⟩ = some (.string (⟨#[]⟩ : ByteArray)) := (blk_cell BK506.out 3).trans rfl; have hcz38_4 : w34.cell? ⟨gb506, 4, none⟩ = some (.int .i64 0) := (blk_cell BK506.out 4).trans rfl; have hcz38_5 : w34.cell? ⟨gb506, 5, none⟩ = some (.slice none 0 0) := (blk_cell BK506.out 5).trans rfl; have hcz38_6 : w34.cell? ⟨gb506, 6, none⟩ = some (.string (⟨#[]⟩ : ByteArray)) := (blk_cell BK506.out 6).trans rfl; have hfz38_0 := blk_frozen BK506.out 0; have hfz38_1 := blk_frozen BK506.out 1; have hfz38_2 := blk_frozen BK506.out 2; have hfz38_3 := blk_frozen BK506.out 3; have hfz38_4 := blk_frozen BK506.out 4; have hfz38_5 := blk_frozen BK506.out 5; have hfz38_6 := blk_frozen BK506.out 6; obtain ⟨Ao39, co39, eo39⟩ := Kd.R_slice HO504.out; subst eo39))
    (try simp only [Act.put, List.setIfInBounds_toArray, List.set_cons_zero, List.set_cons_succ])
    go_cut [55] (fun v55 wc => ∃ (kq : Nat) (x55_11 : Bool), v55 = .bool x55_11 ∧ Aside0 (lockagelaw15_ForwardTwice.j0 kq true t491 t494 x55_11 t462 t463 t464 t465 t466 t467 (⟨#[120]⟩ : ByteArray) t471 t472 t473 t474 t475 t476 t479 t481 t482 t483 t484 t485 t486 t489 t497 t498 t499 t500 t501 t502 t505 = some r) ∧ Aside0 (kq ≤ k) ∧ Aside0 (Kd.R Kd.string 9 wc w.heap.size (fun k_ => some k_ ≠ (v495 : Value).ownBlock) v492 t491) ∧ Aside0 (Kd.R Kd.string 9 wc w.heap.size (fun k_ => some k_ ≠ (v492 : Value).ownBlock) v495 t494) ∧ Aside0 (Kd.R k28 28 wc w.heap.size (fun k_ => some k_ ≠ ((.slice Ao22 t476.length co22) : Value).ownBlock ∧ some k_ ≠ ((.slice Ao28 t486.length co28) : Value).ownBlock ∧ some k_ ≠ ((.slice Ao39 t502.length co39) : Value).ownBlock) (.slice Ao15 t467.length co15) t467) ∧ Aside0 (Kd.R k28 28 wc w.heap.size (fun k_ => some k_ ≠ ((.slice Ao15 t467.length co15) : Value).ownBlock ∧ some k_ ≠ ((.slice Ao28 t486.length co28) : Value).ownBlock ∧ some k_ ≠ ((.slice Ao39 t502.length co39) : Value).ownBlock) (.slice Ao22 t476.length co22) t476) ∧ Aside0 (Kd.R k28 28 wc w.heap.size (fun k_ => some k_ ≠ ((.slice Ao15 t467.length co15) : Value).ownBlock ∧ some k_ ≠ ((.slice Ao22 t476.length co22) : Value).ownBlock ∧ some k_ ≠ ((.slice Ao39 t502.length co39) : Value).ownBlock) (.slice Ao28 t486.length co28) t486) ∧ Aside0 (Kd.R k28 28 wc w.heap.size (fun k_ => some k_ ≠ ((.slice Ao15 t467.length co15) : Value).ownBlock ∧ some k_ ≠ ((.slice Ao22 t476.length co22) : Value).ownBlock ∧ some k_ ≠ ((.slice Ao28 t486.length co28) : Value).ownBlock) (.slice Ao39 t502.length co39) t502) ∧ Aside0 (wc.heap[gb470]? = some (.cells #[.string t462, .string t463, .int .i64 t464, .string t465, .int .i64 t466, (.slice Ao15 t467.length co15), .string (⟨#[120]⟩ : ByteArray)] 26 (0, 0))) ∧ Aside0 (wc.heap[gb480]? = some (.cells #[.string t471, .string t472, .int .i64 t473, .string t474, .int .i64 t475, (.slice Ao22 t476.length co22), .string t479] 26 (0, 0))) ∧ Aside0 (wc.heap[gb490]? = some (.cells #[.string t481, .string t482, .int .i64 t483, .string t484, .int .i64 t485, (.slice Ao28 t486.length co28), .string t489] 26 (0, 0))) ∧ Aside0 (wc.heap[gb506]? = some (.cells #[.string t497, .string t498, .int .i64 t499, .string t500, .int .i64 t501, (.slice Ao39 t502.length co39), .string t505] 26 (0, 0))) ∧ Aside0 (Below w.heap.size w wc))
    case first =>
      have H := HC12.out
      clear HC12
      by_cases c40 : (t491.length : Int) = 1
      · rw [if_pos c40] at H
        have c40b0 : ((t491.length : Int) == 1) = true := beq_iff_eq.mpr c40
        have c40b1 : ((t491.length : Int) != 1) = false := bne_eq_false_iff_eq.mpr c40
        clear c40
        (first | rw [c40b0] | (simp only [i64_w, i32_w]; rw [c40b0]) | skip)
        by_cases c41 : (t494.length : Int) = 1
        · rw [if_pos c41] at H
          have c41b0 : ((t494.length : Int) == 1) = true := beq_iff_eq.mpr c41
          have c41b1 : ((t494.length : Int) != 1) = false := bne_eq_false_iff_eq.mpr c41
          clear c41
          have H' := Aside0.mk H
          clear H
          obtain ⟨Ao42, co42, eo42⟩ := Kd.R_slice HO493.out
          subst eo42
          obtain ⟨Ao43, co43, eo43⟩ := Kd.R_slice HO496.out
          subst eo43
          have hnb44 := NB506_470.out
          have hnc44 := NB470_506.out
          have hnb45 := NB506_480.out
          have hnc45 := NB480_506.out
          have hnb46 := NB506_490.out
          have hnc46 := NB490_506.out
          have hcz47_0 : w34.cell? ⟨gb506, 0, none⟩ = some (.string (⟨#[]⟩ : ByteArray)) := (blk_cell BK506.out 0).trans rfl
          have hcz47_1 : w34.cell? ⟨gb506, 1, none⟩ = some (.string (⟨#[]⟩ : ByteArray)) := (blk_cell BK506.out 1).trans rfl
          have hcz47_2 : w34.cell? ⟨gb506, 2, none⟩ = some (.int .i64 0) := (blk_cell BK506.out 2).trans rfl
          have hcz47_3 : w34.cell? ⟨gb506, 3, none⟩ = some (.string (⟨#[]⟩ : ByteArray)) := (blk_cell BK506.out 3).trans rfl
          have hcz47_4 : w34.cell? ⟨gb506, 4, none⟩ = some (.int .i64 0) := (blk_cell BK506.out 4).trans rfl
          have hcz47_5 : w34.cell? ⟨gb506, 5, none⟩ = some (.slice none 0 0) := (blk_cell BK506.out 5).trans rfl
          have hcz47_6 : w34.cell? ⟨gb506, 6, none⟩ = some (.string (⟨#[]⟩ : ByteArray)) := (blk_cell BK506.out 6).trans rfl
          have hfz47_0 := blk_frozen BK506.out 0
          have hfz47_1 := blk_frozen BK506.out 1
          have hfz47_2 := blk_frozen BK506.out 2
          have hfz47_3 := blk_frozen BK506.out 3
          have hfz47_4 := blk_frozen BK506.out 4
          have hfz47_5 := blk_frozen BK506.out 5
          have hfz47_6 := blk_frozen BK506.out 6
          go_wp2
          go_meet
          case rel => exact ⟨_, (((t502.length : Int) != 1)), (by first | rfl | (simp; done) | (simp [*]; done)), H', ⟨by first | omega | exact Nat.le_refl _⟩, ⟨by (with_reducible repeat (first | apply Kd.R_alloc | apply Kd.R_drewN | apply Kd.R_drew)); exact Kd.R_mono (Kd.R_far (p := ⟨gb506, 6, none⟩) (Kd.R_far (p := ⟨gb506, 5, none⟩) (Kd.R_far (p := ⟨gb506, 4, none⟩) (Kd.R_far (p := ⟨gb506, 3, none⟩) (Kd.R_far (p := ⟨gb506, 2, none⟩) (Kd.R_far (p := ⟨gb506, 1, none⟩) (Kd.R_far (p := ⟨gb506, 0, none⟩) (Kd.R_types HO493.out BK506.out (by decide)) (fun _ hk => hk.2) (.string t497)) (fun _ hk => hk.2) (.string t498)) (fun _ hk => hk.2) (.int .i64 t499)) (fun _ hk => hk.2) (.string t500)) (fun _ hk => hk.2) (.int .i64 t501)) (fun _ hk => hk.2) (.slice Ao39 t502.length co39)) (fun _ hk => hk.2) (.string t505)) (fun _ hk => hk.1.2)⟩, ⟨by (with_reducible repeat (first | apply Kd.R_alloc | apply Kd.R_drewN | apply Kd.R_drew)); exact Kd.R_mono (Kd.R_far (p := ⟨gb506, 6, none⟩) (Kd.R_far (p := ⟨gb506, 5, none⟩) (Kd.R_far (p := ⟨gb506, 4, none⟩) (Kd.R_far (p := ⟨gb506, 3, none⟩) (Kd.R_far (p := ⟨gb506, 2, none⟩) (Kd.R_far (p := ⟨gb506, 1, none⟩) (Kd.R_far (p := ⟨gb506, 0, none⟩) (Kd.R_types HO496.out BK506.out (by decide)) (fun _ hk => hk.2) (.string t497)) (fun _ hk => hk.2) (.string t498)) (fun _ hk => hk.2) (.int .i64 t499)) (fun _ hk => hk.2) (.string t500)) (fun _ hk => hk.2) (.int .i64 t501)) (fun _ hk => hk.2) (.slice Ao39 t502.length co39)) (fun _ hk => hk.2) (.string t505)) (fun _ hk => hk.1.2)⟩, ⟨by (with_reducible repeat (first | apply Kd.R_alloc | apply Kd.R_drewN | apply Kd.R_drew)); exact Kd.R_mono (Kd.R_far (p := ⟨gb506, 6, none⟩) (Kd.R_far (p := ⟨gb506, 5, none⟩) (Kd.R_far (p := ⟨gb506, 4, none⟩) (Kd.R_far (p := ⟨gb506, 3, none⟩) (Kd.R_far (p := ⟨gb506, 2, none⟩) (Kd.R_far (p := ⟨gb506, 1, none⟩) (Kd.R_far (p := ⟨gb506, 0, none⟩) (Kd.R_types HO469.out BK506.out (by decide)) (fun _ hk => hk.2) (.string t497)) (fun _ hk => hk.2) (.string t498)) (fun _ hk => hk.2) (.int .i64 t499)) (fun _ hk => hk.2) (.string t500)) (fun _ hk => hk.2) (.int .i64 t501)) (fun _ hk => hk.2) (.slice Ao39 t502.length co39)) (fun _ hk => hk.2) (.string t505)) (fun _ hk => ⟨hk.1.1.1, ⟨hk.1.1.2, hk.1.2⟩⟩)⟩, ⟨by (with_reducible repeat (first | apply Kd.R_alloc | apply Kd.R_drewN | apply Kd.R_drew)); exact Kd.R_mono (Kd.R_far (p := ⟨gb506, 6, none⟩) (Kd.R_far (p := ⟨gb506, 5, none⟩) (Kd.R_far (p := ⟨gb506, 4, none⟩) (Kd.R_far (p := ⟨gb506, 3, none⟩) (Kd.R_far (p := ⟨gb506, 2, none⟩) (Kd.R_far (p := ⟨gb506, 1, none⟩) (Kd.R_far (p := ⟨gb506, 0, none⟩) (Kd.R_types HO478.out BK506.out (by decide)) (fun _ hk => hk.2) (.string t497)) (fun _ hk => hk.2) (.string t498)) (fun _ hk => hk.2) (.int .i64 t499)) (fun _ hk => hk.2) (.string t500)) (fun _ hk => hk.2) (.int .i64 t501)) (fun _ hk => hk.2) (.slice Ao39 t502.length co39)) (fun _ hk => hk.2) (.string t505)) (fun _ hk => ⟨hk.1.1.1, ⟨hk.1.1.2, hk.1.2⟩⟩)⟩, ⟨by (with_reducible repeat (first | apply Kd.R_alloc | apply Kd.R_drewN | apply Kd.R_drew)); exact Kd.R_mono (Kd.R_far (p := ⟨gb506, 6, none⟩) (Kd.R_far (p := ⟨gb506, 5, none⟩) (Kd.R_far (p := ⟨gb506, 4, none⟩) (Kd.R_far (p := ⟨gb506, 3, none⟩) (Kd.R_far (p := ⟨gb506, 2, none⟩) (Kd.R_far (p := ⟨gb506, 1, none⟩) (Kd.R_far (p := ⟨gb506, 0, none⟩) (Kd.R_types HO488.out BK506.out (by decide)) (fun _ hk => hk.2) (.string t497)) (fun _ hk => hk.2) (.string t498)) (fun _ hk => hk.2) (.int .i64 t499)) (fun _ hk => hk.2) (.string t500)) (fun _ hk => hk.2) (.int .i64 t501)) (fun _ hk => hk.2) (.slice Ao39 t502.length co39)) (fun _ hk => hk.2) (.string t505)) (fun _ hk => ⟨hk.1.1.1, ⟨hk.1.1.2, hk.1.2⟩⟩)⟩, ⟨by (with_reducible repeat (first | apply Kd.R_alloc | apply Kd.R_drewN | apply Kd.R_drew)); exact Kd.R_mono (Kd.R_far (p := ⟨gb506, 6, none⟩) (Kd.R_far (p := ⟨gb506, 5, none⟩) (Kd.R_far (p := ⟨gb506, 4, none⟩) (Kd.R_far (p := ⟨gb506, 3, none⟩) (Kd.R_far (p := ⟨gb506, 2, none⟩) (Kd.R_far (p := ⟨gb506, 1, none⟩) (Kd.R_far (p := ⟨gb506, 0, none⟩) (Kd.R_types HO504.out BK506.out (by decide)) (fun _ hk => hk.2) (.string t497)) (fun _ hk => hk.2) (.string t498)) (fun _ hk => hk.2) (.int .i64 t499)) (fun _ hk => hk.2) (.string t500)) (fun _ hk => hk.2) (.int .i64 t501)) (fun _ hk => hk.2) (.slice Ao39 t502.length co39)) (fun _ hk => hk.2) (.string t505)) (fun _ hk => ⟨hk.1.1.1.2, ⟨hk.1.1.2, hk.1.2⟩⟩)⟩, ⟨by (with_reducible repeat (first | refine blk_drewN ?_ _ | refine blk_drew ?_ | refine blk_alloc ?_ _)); refine blk_far ?_ NB470_506.out _; (with_reducible repeat (first | refine blk_drewN ?_ _ | refine blk_drew ?_ | refine blk_alloc ?_ _)); refine blk_far ?_ NB470_506.out _; (with_reducible repeat (first | refine blk_drewN ?_ _ | refine blk_drew ?_ | refine blk_alloc ?_ _)); refine blk_far ?_ NB470_506.out _; (with_reducible repeat (first | refine blk_drewN ?_ _ | refine blk_drew ?_ | refine blk_alloc ?_ _)); refine blk_far ?_ NB470_506.out _; (with_reducible repeat (first | refine blk_drewN ?_ _ | refine blk_drew ?_ | refine blk_alloc ?_ _)); refine blk_far ?_ NB470_506.out _; (with_reducible repeat (first | refine blk_drewN ?_ _ | refine blk_drew ?_ | refine blk_alloc ?_ _)); refine blk_far ?_ NB470_506.out _; (with_reducible repeat (first | refine blk_drewN ?_ _ | refine blk_drew ?_ | refine blk_alloc ?_ _)); refine blk_far ?_ NB470_506.out _; (with_reducible repeat (first | refine blk_drewN ?_ _ | refine blk_drew ?_ | refine blk_alloc ?_ _)); exact BK470.out⟩, ⟨by (with_reducible repeat (first | refine blk_drewN ?_ _ | refine blk_drew ?_ | refine blk_alloc ?_ _)); refine blk_far ?_ NB480_506.out _; (with_reducible repeat (first | refine blk_drewN ?_ _ | refine blk_drew ?_ | refine blk_alloc ?_ _)); refine blk_far ?_ NB480_506.out _; (with_reducible repeat (first | refine blk_drewN ?_ _ | refine blk_drew ?_ | refine blk_alloc ?_ _)); refine blk_far ?_ NB480_506.out _; (with_reducible repeat (first | refine blk_drewN ?_ _ | refine blk_drew ?_ | refine blk_alloc ?_ _)); refine blk_far ?_ NB480_506.out _; (with_reducible repeat (first | refine blk_drewN ?_ _ | refine blk_drew ?_ | refine blk_alloc ?_ _)); refine blk_far ?_ NB480_506.out _; (with_reducible repeat (first | refine blk_drewN ?_ _ | refine blk_drew ?_ | refine blk_alloc ?_ _)); refine blk_far ?_ NB480_506.out _; (with_reducible repeat (first | refine blk_drewN ?_ _ | refine blk_drew ?_ | refine blk_alloc ?_ _)); refine blk_far ?_ NB480_506.out _; (with_reducible repeat (first | refine blk_drewN ?_ _ | refine blk_drew ?_ | refine blk_alloc ?_ _)); exact BK480.out⟩, ⟨by (with_reducible repeat (first | refine blk_drewN ?_ _ | refine blk_drew ?_ | refine blk_alloc ?_ _)); refine blk_far ?_ NB490_506.out _; (with_reducible repeat (first | refine blk_drewN ?_ _ | refine blk_drew ?_ | refine blk_alloc ?_ _)); refine blk_far ?_ NB490_506.out _; (with_reducible repeat (first | refine blk_drewN ?_ _ | refine blk_drew ?_ | refine blk_alloc ?_ _)); refine blk_far ?_ NB490_506.out _; (with_reducible repeat (first | refine blk_drewN ?_ _ | refine blk_drew ?_ | refine blk_alloc ?_ _)); refine blk_far ?_ NB490_506.out _; (with_reducible repeat (first | refine blk_drewN ?_ _ | refine blk_drew ?_ | refine blk_alloc ?_ _)); refine blk_far ?_ NB490_506.out _; (with_reducible repeat (first | refine blk_drewN ?_ _ | refine blk_drew ?_ | refine blk_alloc ?_ _)); refine blk_far ?_ NB490_506.out _; (with_reducible repeat (first | refine blk_drewN ?_ _ | refine blk_drew ?_ | refine blk_alloc ?_ _)); refine blk_far ?_ NB490_506.out _; (with_reducible repeat (first | refine blk_drewN ?_ _ | refine blk_drew ?_ | refine blk_alloc ?_ _)); exact BK490.out⟩, ⟨by (with_reducible repeat (first | refine blk_drewN ?_ _ | refine blk_drew ?_ | refine blk_alloc ?_ _)); refine blk_put (cs := #[.string t497, .string t498, .int .i64 t499, .string t500, .int .i64 t501, .slice Ao39 t502.length co39, .string (⟨#[]⟩ : ByteArray)]) ?_ 6 _ rfl; (with_reducible repeat (first | refine blk_drewN ?_ _ | refine blk_drew ?_ | refine blk_alloc ?_ _)); refine blk_put (cs := #[.string t497, .string t498, .int .i64 t499, .string t500, .int .i64 t501, .slice none 0 0, .string (⟨#[]⟩ : ByteArray)]) ?_ 5 _ rfl; (with_reducible repeat (first | refine blk_drewN ?_ _ | refine blk_drew ?_ | refine blk_alloc ?_ _)); refine blk_put (cs := #[.string t497, .string t498, .int .i64 t499, .string t500, .int .i64 0, .slice none 0 0, .string (⟨#[]⟩ : ByteArray)]) ?_ 4 _ rfl; (with_reducible repeat (first | refine blk_drewN ?_ _ | refine blk_drew ?_ | refine blk_alloc ?_ _)); refine blk_put (cs := #[.string t497, .string t498, .int .i64 t499, .string (⟨#[]⟩ : ByteArray), .int .i64 0, .slice none 0 0, .string (⟨#[]⟩ : ByteArray)]) ?_ 3 _ rfl; (with_reducible repeat (first | refine blk_drewN ?_ _ | refine blk_drew ?_ | refine blk_alloc ?_ _)); refine blk_put (cs := #[.string t497, .string t498, .int .i64 0, .string (⟨#[]⟩ : ByteArray), .int .i64 0, .slice none 0 0, .string (⟨#[]⟩ : ByteArray)]) ?_ 2 _ rfl; (with_reducible repeat (first | refine blk_drewN ?_ _ | refine blk_drew ?_ | refine blk_alloc ?_ _)); refine blk_put (cs := #[.string t497, .string (⟨#[]⟩ : ByteArray), .int .i64 0, .string (⟨#[]⟩ : ByteArray), .int .i64 0, .slice none 0 0, .string (⟨#[]⟩ : ByteArray)]) ?_ 1 _ rfl; (with_reducible repeat (first | refine blk_drewN ?_ _ | refine blk_drew ?_ | refine blk_alloc ?_ _)); refine blk_put (cs := #[.string (⟨#[]⟩ : ByteArray), .string (⟨#[]⟩ : ByteArray), .int .i64 0, .string (⟨#[]⟩ : ByteArray), .int .i64 0, .slice none 0 0, .string (⟨#[]⟩ : ByteArray)]) ?_ 0 _ rfl; (with_reducible repeat (first | refine blk_drewN ?_ _ | refine blk_drew ?_ | refine blk_alloc ?_ _)); exact BK506.out⟩, ⟨by repeat (first | (with_reducible first | exact HB.out | apply below_alloc | apply pw_below_drewN | apply below_drew1 | refine below_set ?_ GE470.out | refine below_set ?_ GE480.out | refine below_set ?_ GE490.out | refine below_set ?_ GE506.out) | exact HB.out)⟩⟩
        · rw [if_neg c41] at H
          have c41b0 : ((t494.length : Int) == 1) = false := beq_eq_false_iff_ne.mpr c41
          have c41b1 : ((t494.length : Int) != 1) = true := bne_iff_ne.mpr c41
          have H' := Aside0.mk H
          clear H
          obtain ⟨Ao48, co48, eo48⟩ := Kd.R_slice HO493.out
          subst eo48
          obtain ⟨Ao49, co49, eo49⟩ := Kd.R_slice HO496.out
          subst eo49
          go_wp2
          go_meet
          case rel => exact ⟨_, (true), (by first | rfl | (simp; done) | (simp [*]; done)), H', ⟨by first | omega | exact Nat.le_refl _⟩, ⟨by (with_reducible repeat (first | apply Kd.R_alloc | apply Kd.R_drewN | apply Kd.R_drew)); exact Kd.R_mono (Kd.R_far (p := ⟨gb506, 6, none⟩) (Kd.R_far (p := ⟨gb506, 5, none⟩) (Kd.R_far (p := ⟨gb506, 4, none⟩) (Kd.R_far (p := ⟨gb506, 3, none⟩) (Kd.R_far (p := ⟨gb506, 2, none⟩) (Kd.R_far (p := ⟨gb506, 1, none⟩) (Kd.R_far (p := ⟨gb506, 0, none⟩) (Kd.R_types HO493.out BK506.out (by decide)) (fun _ hk => hk.2) (.string t497)) (fun _ hk => hk.2) (.string t498)) (fun _ hk => hk.2) (.int .i64 t499)) (fun _ hk => hk.2) (.string t500)) (fun _ hk => hk.2) (.int .i64 t501)) (fun _ hk => hk.2) (.slice Ao39 t502.length co39)) (fun _ hk => hk.2) (.string t505)) (fun _ hk => hk.1.2)⟩, ⟨by (with_reducible repeat (first | apply Kd.R_alloc | apply Kd.R_drewN | apply Kd.R_drew)); exact Kd.R_mono (Kd.R_far (p := ⟨gb506, 6, none⟩) (Kd.R_far (p := ⟨gb506, 5, none⟩) (Kd.R_far (p := ⟨gb506, 4, none⟩) (Kd.R_far (p := ⟨gb506, 3, none⟩) (Kd.R_far (p := ⟨gb506, 2, none⟩) (Kd.R_far (p := ⟨gb506, 1, none⟩) (Kd.R_far (p := ⟨gb506, 0, none⟩) (Kd.R_types HO496.out BK506.out (by decide)) (fun _ hk => hk.2) (.string t497)) (fun _ hk => hk.2) (.string t498)) (fun _ hk => hk.2) (.int .i64 t499)) (fun _ hk => hk.2) (.string t500)) (fun _ hk => hk.2) (.int .i64 t501)) (fun _ hk => hk.2) (.slice Ao39 t502.length co39)) (fun _ hk => hk.2) (.string t505)) (fun _ hk => hk.1.2)⟩, ⟨by (with_reducible repeat (first | apply Kd.R_alloc | apply Kd.R_drewN | apply Kd.R_drew)); exact Kd.R_mono (Kd.R_far (p := ⟨gb506, 6, none⟩) (Kd.R_far (p := ⟨gb506, 5, none⟩) (Kd.R_far (p := ⟨gb506, 4, none⟩) (Kd.R_far (p := ⟨gb506, 3, none⟩) (Kd.R_far (p := ⟨gb506, 2, none⟩) (Kd.R_far (p := ⟨gb506, 1, none⟩) (Kd.R_far (p := ⟨gb506, 0, none⟩) (Kd.R_types HO469.out BK506.out (by decide)) (fun _ hk => hk.2) (.string t497)) (fun _ hk => hk.2) (.string t498)) (fun _ hk => hk.2) (.int .i64 t499)) (fun _ hk => hk.2) (.string t500)) (fun _ hk => hk.2) (.int .i64 t501)) (fun _ hk => hk.2) (.slice Ao39 t502.length co39)) (fun _ hk => hk.2) (.string t505)) (fun _ hk => ⟨hk.1.1.1, ⟨hk.1.1.2, hk.1.2⟩⟩)⟩, ⟨by (with_reducible repeat (first | apply Kd.R_alloc | apply Kd.R_drewN | apply Kd.R_drew)); exact Kd.R_mono (Kd.R_far (p := ⟨gb506, 6, none⟩) (Kd.R_far (p := ⟨gb506, 5, none⟩) (Kd.R_far (p := ⟨gb506, 4, none⟩) (Kd.R_far (p := ⟨gb506, 3, none⟩) (Kd.R_far (p := ⟨gb506, 2, none⟩) (Kd.R_far (p := ⟨gb506, 1, none⟩) (Kd.R_far (p := ⟨gb506, 0, none⟩) (Kd.R_types HO478.out BK506.out (by decide)) (fun _ hk => hk.2) (.string t497)) (fun _ hk => hk.2) (.string t498)) (fun _ hk => hk.2) (.int .i64 t499)) (fun _ hk => hk.2) (.string t500)) (fun _ hk => hk.2) (.int .i64 t501)) (fun _ hk => hk.2) (.slice Ao39 t502.length co39)) (fun _ hk => hk.2) (.string t505)) (fun _ hk => ⟨hk.1.1.1, ⟨hk.1.1.2, hk.1.2⟩⟩)⟩, ⟨by (with_reducible repeat (first | apply Kd.R_alloc | apply Kd.R_drewN | apply Kd.R_drew)); exact Kd.R_mono (Kd.R_far (p := ⟨gb506, 6, none⟩) (Kd.R_far (p := ⟨gb506, 5, none⟩) (Kd.R_far (p := ⟨gb506, 4, none⟩) (Kd.R_far (p := ⟨gb506, 3, none⟩) (Kd.R_far (p := ⟨gb506, 2, none⟩) (Kd.R_far (p := ⟨gb506, 1, none⟩) (Kd.R_far (p := ⟨gb506, 0, none⟩) (Kd.R_types HO488.out BK506.out (by decide)) (fun _ hk => hk.2) (.string t497)) (fun _ hk => hk.2) (.string t498)) (fun _ hk => hk.2) (.int .i64 t499)) (fun _ hk => hk.2) (.string t500)) (fun _ hk => hk.2) (.int .i64 t501)) (fun _ hk => hk.2) (.slice Ao39 t502.length co39)) (fun _ hk => hk.2) (.string t505)) (fun _ hk => ⟨hk.1.1.1, ⟨hk.1.1.2, hk.1.2⟩⟩)⟩, ⟨by (with_reducible repeat (first | apply Kd.R_alloc | apply Kd.R_drewN | apply Kd.R_drew)); exact Kd.R_mono (Kd.R_far (p := ⟨gb506, 6, none⟩) (Kd.R_far (p := ⟨gb506, 5, none⟩) (Kd.R_far (p := ⟨gb506, 4, none⟩) (Kd.R_far (p := ⟨gb506, 3, none⟩) (Kd.R_far (p := ⟨gb506, 2, none⟩) (Kd.R_far (p := ⟨gb506, 1, none⟩) (Kd.R_far (p := ⟨gb506, 0, none⟩) (Kd.R_types HO504.out BK506.out (by decide)) (fun _ hk => hk.2) (.string t497)) (fun _ hk => hk.2) (.string t498)) (fun _ hk => hk.2) (.int .i64 t499)) (fun _ hk => hk.2) (.string t500)) (fun _ hk => hk.2) (.int .i64 t501)) (fun _ hk => hk.2) (.slice Ao39 t502.length co39)) (fun _ hk => hk.2) (.string t505)) (fun _ hk => ⟨hk.1.1.1.2, ⟨hk.1.1.2, hk.1.2⟩⟩)⟩, ⟨by (with_reducible repeat (first | refine blk_drewN ?_ _ | refine blk_drew ?_ | refine blk_alloc ?_ _)); refine blk_far ?_ NB470_506.out _; (with_reducible repeat (first | refine blk_drewN ?_ _ | refine blk_drew ?_ | refine blk_alloc ?_ _)); refine blk_far ?_ NB470_506.out _; (with_reducible repeat (first | refine blk_drewN ?_ _ | refine blk_drew ?_ | refine blk_alloc ?_ _)); refine blk_far ?_ NB470_506.out _; (with_reducible repeat (first | refine blk_drewN ?_ _ | refine blk_drew ?_ | refine blk_alloc ?_ _)); refine blk_far ?_ NB470_506.out _; (with_reducible repeat (first | refine blk_drewN ?_ _ | refine blk_drew ?_ | refine blk_alloc ?_ _)); refine blk_far ?_ NB470_506.out _; (with_reducible repeat (first | refine blk_drewN ?_ _ | refine blk_drew ?_ | refine blk_alloc ?_ _)); refine blk_far ?_ NB470_506.out _; (with_reducible repeat (first | refine blk_drewN ?_ _ | refine blk_drew ?_ | refine blk_alloc ?_ _)); refine blk_far ?_ NB470_506.out _; (with_reducible repeat (first | refine blk_drewN ?_ _ | refine blk_drew ?_ | refine blk_alloc ?_ _)); exact BK470.out⟩, ⟨by (with_reducible repeat (first | refine blk_drewN ?_ _ | refine blk_drew ?_ | refine blk_alloc ?_ _)); refine blk_far ?_ NB480_506.out _; (with_reducible repeat (first | refine blk_drewN ?_ _ | refine blk_drew ?_ | refine blk_alloc ?_ _)); refine blk_far ?_ NB480_506.out _; (with_reducible repeat (first | refine blk_drewN ?_ _ | refine blk_drew ?_ | refine blk_alloc ?_ _)); refine blk_far ?_ NB480_506.out _; (with_reducible repeat (first | refine blk_drewN ?_ _ | refine blk_drew ?_ | refine blk_alloc ?_ _)); refine blk_far ?_ NB480_506.out _; (with_reducible repeat (first | refine blk_drewN ?_ _ | refine blk_drew ?_ | refine blk_alloc ?_ _)); refine blk_far ?_ NB480_506.out _; (with_reducible repeat (first | refine blk_drewN ?_ _ | refine blk_drew ?_ | refine blk_alloc ?_ _)); refine blk_far ?_ NB480_506.out _; (with_reducible repeat (first | refine blk_drewN ?_ _ | refine blk_drew ?_ | refine blk_alloc ?_ _)); refine blk_far ?_ NB480_506.out _; (with_reducible repeat (first | refine blk_drewN ?_ _ | refine blk_drew ?_ | refine blk_alloc ?_ _)); exact BK480.out⟩, ⟨by (with_reducible repeat (first | refine blk_drewN ?_ _ | refine blk_drew ?_ | refine blk_alloc ?_ _)); refine blk_far ?_ NB490_506.out _; (with_reducible repeat (first | refine blk_drewN ?_ _ | refine blk_drew ?_ | refine blk_alloc ?_ _)); refine blk_far ?_ NB490_506.out _; (with_reducible repeat (first | refine blk_drewN ?_ _ | refine blk_drew ?_ | refine blk_alloc ?_ _)); refine blk_far ?_ NB490_506.out _; (with_reducible repeat (first | refine blk_drewN ?_ _ | refine blk_drew ?_ | refine blk_alloc ?_ _)); refine blk_far ?_ NB490_506.out _; (with_reducible repeat (first | refine blk_drewN ?_ _ | refine blk_drew ?_ | refine blk_alloc ?_ _)); refine blk_far ?_ NB490_506.out _; (with_reducible repeat (first | refine blk_drewN ?_ _ | refine blk_drew ?_ | refine blk_alloc ?_ _)); refine blk_far ?_ NB490_506.out _; (with_reducible repeat (first | refine blk_drewN ?_ _ | refine blk_drew ?_ | refine blk_alloc ?_ _)); refine blk_far ?_ NB490_506.out _; (with_reducible repeat (first | refine blk_drewN ?_ _ | refine blk_drew ?_ | refine blk_alloc ?_ _)); exact BK490.out⟩, ⟨by (with_reducible repeat (first | refine blk_drewN ?_ _ | refine blk_drew ?_ | refine blk_alloc ?_ _)); refine blk_put (cs := #[.string t497, .string t498, .int .i64 t499, .string t500, .int .i64 t501, .slice Ao39 t502.length co39, .string (⟨#[]⟩ : ByteArray)]) ?_ 6 _ rfl; (with_reducible repeat (first | refine blk_drewN ?_ _ | refine blk_drew ?_ | refine blk_alloc ?_ _)); refine blk_put (cs := #[.string t497, .string t498, .int .i64 t499, .string t500, .int .i64 t501, .slice none 0 0, .string (⟨#[]⟩ : ByteArray)]) ?_ 5 _ rfl; (with_reducible repeat (first | refine blk_drewN ?_ _ | refine blk_drew ?_ | refine blk_alloc ?_ _)); refine blk_put (cs := #[.string t497, .string t498, .int .i64 t499, .string t500, .int .i64 0, .slice none 0 0, .string (⟨#[]⟩ : ByteArray)]) ?_ 4 _ rfl; (with_reducible repeat (first | refine blk_drewN ?_ _ | refine blk_drew ?_ | refine blk_alloc ?_ _)); refine blk_put (cs := #[.string t497, .string t498, .int .i64 t499, .string (⟨#[]⟩ : ByteArray), .int .i64 0, .slice none 0 0, .string (⟨#[]⟩ : ByteArray)]) ?_ 3 _ rfl; (with_reducible repeat (first | refine blk_drewN ?_ _ | refine blk_drew ?_ | refine blk_alloc ?_ _)); refine blk_put (cs := #[.string t497, .string t498, .int .i64 0, .string (⟨#[]⟩ : ByteArray), .int .i64 0, .slice none 0 0, .string (⟨#[]⟩ : ByteArray)]) ?_ 2 _ rfl; (with_reducible repeat (first | refine blk_drewN ?_ _ | refine blk_drew ?_ | refine blk_alloc ?_ _)); refine blk_put (cs := #[.string t497, .string (⟨#[]⟩ : ByteArray), .int .i64 0, .string (⟨#[]⟩ : ByteArray), .int .i64 0, .slice none 0 0, .string (⟨#[]⟩ : ByteArray)]) ?_ 1 _ rfl; (with_reducible repeat (first | refine blk_drewN ?_ _ | refine blk_drew ?_ | refine blk_alloc ?_ _)); refine blk_put (cs := #[.string (⟨#[]⟩ : ByteArray), .string (⟨#[]⟩ : ByteArray), .int .i64 0, .string (⟨#[]⟩ : ByteArray), .int .i64 0, .slice none 0 0, .string (⟨#[]⟩ : ByteArray)]) ?_ 0 _ rfl; (with_reducible repeat (first | refine blk_drewN ?_ _ | refine blk_drew ?_ | refine blk_alloc ?_ _)); exact BK506.out⟩, ⟨by repeat (first | (with_reducible first | exact HB.out | apply below_alloc | apply pw_below_drewN | apply below_drew1 | refine below_set ?_ GE470.out | refine below_set ?_ GE480.out | refine below_set ?_ GE490.out | refine below_set ?_ GE506.out) | exact HB.out)⟩⟩
      · rw [if_neg c40] at H
        have c40b0 : ((t491.length : Int) == 1) = false := beq_eq_false_iff_ne.mpr c40
        have c40b1 : ((t491.length : Int) != 1) = true := bne_iff_ne.mpr c40
        (first | rw [c40b0] | (simp only [i64_w, i32_w]; rw [c40b0]) | skip)
        have H' := Aside0.mk H
        clear H
        obtain ⟨Ao50, co50, eo50⟩ := Kd.R_slice HO493.out
        subst eo50
        go_wp2
        go_meet
        case rel => exact ⟨_, (true), (by first | rfl | (simp; done) | (simp [*]; done)), H', ⟨by first | omega | exact Nat.le_refl _⟩, ⟨by (with_reducible repeat (first | apply Kd.R_alloc | apply Kd.R_drewN | apply Kd.R_drew)); exact Kd.R_mono (Kd.R_far (p := ⟨gb506, 6, none⟩) (Kd.R_far (p := ⟨gb506, 5, none⟩) (Kd.R_far (p := ⟨gb506, 4, none⟩) (Kd.R_far (p := ⟨gb506, 3, none⟩) (Kd.R_far (p := ⟨gb506, 2, none⟩) (Kd.R_far (p := ⟨gb506, 1, none⟩) (Kd.R_far (p := ⟨gb506, 0, none⟩) (Kd.R_types HO493.out BK506.out (by decide)) (fun _ hk => hk.2) (.string t497)) (fun _ hk => hk.2) (.string t498)) (fun _ hk => hk.2) (.int .i64 t499)) (fun _ hk => hk.2) (.string t500)) (fun _ hk => hk.2) (.int .i64 t501)) (fun _ hk => hk.2) (.slice Ao39 t502.length co39)) (fun _ hk => hk.2) (.string t505)) (fun _ hk => hk.1.2)⟩, ⟨by (with_reducible repeat (first | apply Kd.R_alloc | apply Kd.R_drewN | apply Kd.R_drew)); exact Kd.R_mono (Kd.R_far (p := ⟨gb506, 6, none⟩) (Kd.R_far (p := ⟨gb506, 5, none⟩) (Kd.R_far (p := ⟨gb506, 4, none⟩) (Kd.R_far (p := ⟨gb506, 3, none⟩) (Kd.R_far (p := ⟨gb506, 2, none⟩) (Kd.R_far (p := ⟨gb506, 1, none⟩) (Kd.R_far (p := ⟨gb506, 0, none⟩) (Kd.R_types HO496.out BK506.out (by decide)) (fun _ hk => hk.2) (.string t497)) (fun _ hk => hk.2) (.string t498)) (fun _ hk => hk.2) (.int .i64 t499)) (fun _ hk => hk.2) (.string t500)) (fun _ hk => hk.2) (.int .i64 t501)) (fun _ hk => hk.2) (.slice Ao39 t502.length co39)) (fun _ hk => hk.2) (.string t505)) (fun _ hk => hk.1.2)⟩, ⟨by (with_reducible repeat (first | apply Kd.R_alloc | apply Kd.R_drewN | apply Kd.R_drew)); exact Kd.R_mono (Kd.R_far (p := ⟨gb506, 6, none⟩) (Kd.R_far (p := ⟨gb506, 5, none⟩) (Kd.R_far (p := ⟨gb506, 4, none⟩) (Kd.R_far (p := ⟨gb506, 3, none⟩) (Kd.R_far (p := ⟨gb506, 2, none⟩) (Kd.R_far (p := ⟨gb506, 1, none⟩) (Kd.R_far (p := ⟨gb506, 0, none⟩) (Kd.R_types HO469.out BK506.out (by decide)) (fun _ hk => hk.2) (.string t497)) (fun _ hk => hk.2) (.string t498)) (fun _ hk => hk.2) (.int .i64 t499)) (fun _ hk => hk.2) (.string t500)) (fun _ hk => hk.2) (.int .i64 t501)) (fun _ hk => hk.2) (.slice Ao39 t502.length co39)) (fun _ hk => hk.2) (.string t505)) (fun _ hk => ⟨hk.1.1.1, ⟨hk.1.1.2, hk.1.2⟩⟩)⟩, ⟨by (with_reducible repeat (first | apply Kd.R_alloc | apply Kd.R_drewN | apply Kd.R_drew)); exact Kd.R_mono (Kd.R_far (p := ⟨gb506, 6, none⟩) (Kd.R_far (p := ⟨gb506, 5, none⟩) (Kd.R_far (p := ⟨gb506, 4, none⟩) (Kd.R_far (p := ⟨gb506, 3, none⟩) (Kd.R_far (p := ⟨gb506, 2, none⟩) (Kd.R_far (p := ⟨gb506, 1, none⟩) (Kd.R_far (p := ⟨gb506, 0, none⟩) (Kd.R_types HO478.out BK506.out (by decide)) (fun _ hk => hk.2) (.string t497)) (fun _ hk => hk.2) (.string t498)) (fun _ hk => hk.2) (.int .i64 t499)) (fun _ hk => hk.2) (.string t500)) (fun _ hk => hk.2) (.int .i64 t501)) (fun _ hk => hk.2) (.slice Ao39 t502.length co39)) (fun _ hk => hk.2) (.string t505)) (fun _ hk => ⟨hk.1.1.1, ⟨hk.1.1.2, hk.1.2⟩⟩)⟩, ⟨by (with_reducible repeat (first | apply Kd.R_alloc | apply Kd.R_drewN | apply Kd.R_drew)); exact Kd.R_mono (Kd.R_far (p := ⟨gb506, 6, none⟩) (Kd.R_far (p := ⟨gb506, 5, none⟩) (Kd.R_far (p := ⟨gb506, 4, none⟩) (Kd.R_far (p := ⟨gb506, 3, none⟩) (Kd.R_far (p := ⟨gb506, 2, none⟩) (Kd.R_far (p := ⟨gb506, 1, none⟩) (Kd.R_far (p := ⟨gb506, 0, none⟩) (Kd.R_types HO488.out BK506.out (by decide)) (fun _ hk => hk.2) (.string t497)) (fun _ hk => hk.2) (.string t498)) (fun _ hk => hk.2) (.int .i64 t499)) (fun _ hk => hk.2) (.string t500)) (fun _ hk => hk.2) (.int .i64 t501)) (fun _ hk => hk.2) (.slice Ao39 t502.length co39)) (fun _ hk => hk.2) (.string t505)) (fun _ hk => ⟨hk.1.1.1, ⟨hk.1.1.2, hk.1.2⟩⟩)⟩, ⟨by (with_reducible repeat (first | apply Kd.R_alloc | apply Kd.R_drewN | apply Kd.R_drew)); exact Kd.R_mono (Kd.R_far (p := ⟨gb506, 6, none⟩) (Kd.R_far (p := ⟨gb506, 5, none⟩) (Kd.R_far (p := ⟨gb506, 4, none⟩) (Kd.R_far (p := ⟨gb506, 3, none⟩) (Kd.R_far (p := ⟨gb506, 2, none⟩) (Kd.R_far (p := ⟨gb506, 1, none⟩) (Kd.R_far (p := ⟨gb506, 0, none⟩) (Kd.R_types HO504.out BK506.out (by decide)) (fun _ hk => hk.2) (.string t497)) (fun _ hk => hk.2) (.string t498)) (fun _ hk => hk.2) (.int .i64 t499)) (fun _ hk => hk.2) (.string t500)) (fun _ hk => hk.2) (.int .i64 t501)) (fun _ hk => hk.2) (.slice Ao39 t502.length co39)) (fun _ hk => hk.2) (.string t505)) (fun _ hk => ⟨hk.1.1.1.2, ⟨hk.1.1.2, hk.1.2⟩⟩)⟩, ⟨by (with_reducible repeat (first | refine blk_drewN ?_ _ | refine blk_drew ?_ | refine blk_alloc ?_ _)); refine blk_far ?_ NB470_506.out _; (with_reducible repeat (first | refine blk_drewN ?_ _ | refine blk_drew ?_ | refine blk_alloc ?_ _)); refine blk_far ?_ NB470_506.out _; (with_reducible repeat (first | refine blk_drewN ?_ _ | refine blk_drew ?_ | refine blk_alloc ?_ _)); refine blk_far ?_ NB470_506.out _; (with_reducible repeat (first | refine blk_drewN ?_ _ | refine blk_drew ?_ | refine blk_alloc ?_ _)); refine blk_far ?_ NB470_506.out _; (with_reducible repeat (first | refine blk_drewN ?_ _ | refine blk_drew ?_ | refine blk_alloc ?_ _)); refine blk_far ?_ NB470_506.out _; (with_reducible repeat (first | refine blk_drewN ?_ _ | refine blk_drew ?_ | refine blk_alloc ?_ _)); refine blk_far ?_ NB470_506.out _; (with_reducible repeat (first | refine blk_drewN ?_ _ | refine blk_drew ?_ | refine blk_alloc ?_ _)); refine blk_far ?_ NB470_506.out _; (with_reducible repeat (first | refine blk_drewN ?_ _ | refine blk_drew ?_ | refine blk_alloc ?_ _)); exact BK470.out⟩, ⟨by (with_reducible repeat (first | refine blk_drewN ?_ _ | refine blk_drew ?_ | refine blk_alloc ?_ _)); refine blk_far ?_ NB480_506.out _; (with_reducible repeat (first | refine blk_drewN ?_ _ | refine blk_drew ?_ | refine blk_alloc ?_ _)); refine blk_far ?_ NB480_506.out _; (with_reducible repeat (first | refine blk_drewN ?_ _ | refine blk_drew ?_ | refine blk_alloc ?_ _)); refine blk_far ?_ NB480_506.out _; (with_reducible repeat (first | refine blk_drewN ?_ _ | refine blk_drew ?_ | refine blk_alloc ?_ _)); refine blk_far ?_ NB480_506.out _; (with_reducible repeat (first | refine blk_drewN ?_ _ | refine blk_drew ?_ | refine blk_alloc ?_ _)); refine blk_far ?_ NB480_506.out _; (with_reducible repeat (first | refine blk_drewN ?_ _ | refine blk_drew ?_ | refine blk_alloc ?_ _)); refine blk_far ?_ NB480_506.out _; (with_reducible repeat (first | refine blk_drewN ?_ _ | refine blk_drew ?_ | refine blk_alloc ?_ _)); refine blk_far ?_ NB480_506.out _; (with_reducible repeat (first | refine blk_drewN ?_ _ | refine blk_drew ?_ | refine blk_alloc ?_ _)); exact BK480.out⟩, ⟨by (with_reducible repeat (first | refine blk_drewN ?_ _ | refine blk_drew ?_ | refine blk_alloc ?_ _)); refine blk_far ?_ NB490_506.out _; (with_reducible repeat (first | refine blk_drewN ?_ _ | refine blk_drew ?_ | refine blk_alloc ?_ _)); refine blk_far ?_ NB490_506.out _; (with_reducible repeat (first | refine blk_drewN ?_ _ | refine blk_drew ?_ | refine blk_alloc ?_ _)); refine blk_far ?_ NB490_506.out _; (with_reducible repeat (first | refine blk_drewN ?_ _ | refine blk_drew ?_ | refine blk_alloc ?_ _)); refine blk_far ?_ NB490_506.out _; (with_reducible repeat (first | refine blk_drewN ?_ _ | refine blk_drew ?_ | refine blk_alloc ?_ _)); refine blk_far ?_ NB490_506.out _; (with_reducible repeat (first | refine blk_drewN ?_ _ | refine blk_drew ?_ | refine blk_alloc ?_ _)); refine blk_far ?_ NB490_506.out _; (with_reducible repeat (first | refine blk_drewN ?_ _ | refine blk_drew ?_ | refine blk_alloc ?_ _)); refine blk_far ?_ NB490_506.out _; (with_reducible repeat (first | refine blk_drewN ?_ _ | refine blk_drew ?_ | refine blk_alloc ?_ _)); exact BK490.out⟩, ⟨by (with_reducible repeat (first | refine blk_drewN ?_ _ | refine blk_drew ?_ | refine blk_alloc ?_ _)); refine blk_put (cs := #[.string t497, .string t498, .int .i64 t499, .string t500, .int .i64 t501, .slice Ao39 t502.length co39, .string (⟨#[]⟩ : ByteArray)]) ?_ 6 _ rfl; (with_reducible repeat (first | refine blk_drewN ?_ _ | refine blk_drew ?_ | refine blk_alloc ?_ _)); refine blk_put (cs := #[.string t497, .string t498, .int .i64 t499, .string t500, .int .i64 t501, .slice none 0 0, .string (⟨#[]⟩ : ByteArray)]) ?_ 5 _ rfl; (with_reducible repeat (first | refine blk_drewN ?_ _ | refine blk_drew ?_ | refine blk_alloc ?_ _)); refine blk_put (cs := #[.string t497, .string t498, .int .i64 t499, .string t500, .int .i64 0, .slice none 0 0, .string (⟨#[]⟩ : ByteArray)]) ?_ 4 _ rfl; (with_reducible repeat (first | refine blk_drewN ?_ _ | refine blk_drew ?_ | refine blk_alloc ?_ _)); refine blk_put (cs := #[.string t497, .string t498, .int .i64 t499, .string (⟨#[]⟩ : ByteArray), .int .i64 0, .slice none 0 0, .string (⟨#[]⟩ : ByteArray)]) ?_ 3 _ rfl; (with_reducible repeat (first | refine blk_drewN ?_ _ | refine blk_drew ?_ | refine blk_alloc ?_ _)); refine blk_put (cs := #[.string t497, .string t498, .int .i64 0, .string (⟨#[]⟩ : ByteArray), .int .i64 0, .slice none 0 0, .string (⟨#[]⟩ : ByteArray)]) ?_ 2 _ rfl; (with_reducible repeat (first | refine blk_drewN ?_ _ | refine blk_drew ?_ | refine blk_alloc ?_ _)); refine blk_put (cs := #[.string t497, .string (⟨#[]⟩ : ByteArray), .int .i64 0, .string (⟨#[]⟩ : ByteArray), .int .i64 0, .slice none 0 0, .string (⟨#[]⟩ : ByteArray)]) ?_ 1 _ rfl; (with_reducible repeat (first | refine blk_drewN ?_ _ | refine blk_drew ?_ | refine blk_alloc ?_ _)); refine blk_put (cs := #[.string (⟨#[]⟩ : ByteArray), .string (⟨#[]⟩ : ByteArray), .int .i64 0, .string (⟨#[]⟩ : ByteArray), .int .i64 0, .slice none 0 0, .string (⟨#[]⟩ : ByteArray)]) ?_ 0 _ rfl; (with_reducible repeat (first | refine blk_drewN ?_ _ | refine blk_drew ?_ | refine blk_alloc ?_ _)); exact BK506.out⟩, ⟨by repeat (first | (with_reducible first | exact HB.out | apply below_alloc | apply pw_below_drewN | apply below_drew1 | refine below_set ?_ GE470.out | refine below_set ?_ GE480.out | refine below_set ?_ GE490.out | refine below_set ?_ GE506.out) | exact HB.out)⟩⟩
    case rest =>
      clear HC12
      try clear c1
      try clear c2
      try clear p2
      try clear c3
      try clear c4
      try clear c5
      try clear c6
      try clear p6
      try clear c7
      try clear c9
      try clear c10
      try clear c15
      try clear c20
      try clear c25
      try clear c26
      try clear c35
      try clear c36
      try clear c37
      try clear c40
      try clear c40b0
      try clear c40b1
      try clear c41
      try clear c41b0
      try clear c41b1
      try clear c44
      try clear c45
      try clear c46
      try clear hcz17_0
      try clear hcz17_1
      try clear hcz17_2
      try clear hcz17_3
      try clear hcz17_4
      try clear hcz17_5
      try clear hcz17_6
      try clear hcz21_0
      try clear hcz21_1
      try clear hcz21_2
      try clear hcz21_3
      try clear hcz21_4
      try clear hcz21_5
      try clear hcz21_6
      try clear hcz27_0
      try clear hcz27_1
      try clear hcz27_2
      try clear hcz27_3
      try clear hcz27_4
      try clear hcz27_5
      try clear hcz27_6
      try clear hcz38_0
      try clear hcz38_1
      try clear hcz38_2
      try clear hcz38_3
      try clear hcz38_4
      try clear hcz38_5
      try clear hcz38_6
      try clear hcz47_0
      try clear hcz47_1
      try clear hcz47_2
      try clear hcz47_3
      try clear hcz47_4
      try clear hcz47_5
      try clear hcz47_6
      try clear hfz17_0
      try clear hfz17_1
      try clear hfz17_2
      try clear hfz17_3
      try clear hfz17_4
      try clear hfz17_5
      try clear hfz17_6
      try clear hfz21_0
      try clear hfz21_1
      try clear hfz21_2
      try clear hfz21_3
      try clear hfz21_4
      try clear hfz21_5
      try clear hfz21_6
      try clear hfz27_0
      try clear hfz27_1
      try clear hfz27_2
      try clear hfz27_3
      try clear hfz27_4
      try clear hfz27_5
      try clear hfz27_6
      try clear hfz38_0
      try clear hfz38_1
      try clear hfz38_2
      try clear hfz38_3
      try clear hfz38_4
      try clear hfz38_5
      try clear hfz38_6
      try clear hfz47_0
      try clear hfz47_1
      try clear hfz47_2
      try clear hfz47_3
      try clear hfz47_4
      try clear hfz47_5
      try clear hfz47_6
      obtain ⟨kq, x55_11, rfl, HA, HJ11, HO_11, HO_12, HO_471005, HO_481005, HO_491005, HO_507005, BK470, BK480, BK490, BK506, HB⟩ := hcut
      cases kq with
      | zero => exact absurd HA.out (by simp [lockagelaw15_ForwardTwice.j0])
      | succ kj11 =>
        have H := HA.out
        clear HA
        simp only [lockagelaw15_ForwardTwice.j0] at H
        by_cases c51 : x55_11 = true
        · subst c51
          have H1 : (none) = some r := by rw [if_pos rfl] at H; exact H
          clear H
          have H := H1
          clear H1
          exact absurd H (by simp)
        · replace c51 := Bool.eq_false_iff.mpr c51
          subst c51
          have H1 : ((some (([(⟨#[120, 45, 102, 111, 114, 119, 97, 114, 100, 101, 100, 45, 102, 111, 114]⟩ : ByteArray)] : List ByteArray) : List ByteArray)).bind fun y507 => (if true = true then (if 0 < (t494.length : Int) then (if 0 < (t491.length : Int) then (if (rdOf ByteArray.empty t491 0).size + 2 ≤ 9223372036854775807 then (if 0 < (t502.length : Int) then (if ((rdOf ByteArray.empty t491 0) ++ (⟨#[44, 32]⟩ : ByteArray)).size + ((rd_T28 t502 0).f1).size ≤ 9223372036854775807 then (if (rdOf ByteArray.empty t494 0).toList = (((rdOf ByteArray.empty t491 0) ++ (⟨#[44, 32]⟩ : ByteArray)) ++ ((rd_T28 t502 0).f1)).toList then ((lockageref05_Drop.f kj11 t476 y507).bind fun t513 => ((lockageref05_Drop.f kj11 t486 y507).bind fun t516 => ((lockageref05_Same.f kj11 t513 t516).bind fun t519 => (if t519 = true then (if t489.toList = ([120] : List UInt8) then (if t481.toList = t462.toList then (some (t482.toList == t463.toList)) else (none)) else (none)) else (none))))) else (none)) else (none)) else (none)) else (none)) else (none)) else (none)) else (none))) = some r := by rw [if_neg (show ¬ (false = true) by decide)] at H; exact H
          clear H
          have H := H1
          clear H1
          obtain ⟨y507, hy507⟩ : ∃ y_ : List ByteArray, y_ = (([(⟨#[120, 45, 102, 111, 114, 119, 97, 114, 100, 101, 100, 45, 102, 111, 114]⟩ : ByteArray)] : List ByteArray)) := ⟨_, rfl⟩
          replace H : (if true = true then (if 0 < (t494.length : Int) then (if 0 < (t491.length : Int) then (if (rdOf ByteArray.empty t491 0).size + 2 ≤ 9223372036854775807 then (if 0 < (t502.length : Int) then (if ((rdOf ByteArray.empty t491 0) ++ (⟨#[44, 32]⟩ : ByteArray)).size + ((rd_T28 t502 0).f1).size ≤ 9223372036854775807 then (if (rdOf ByteArray.empty t494 0).toList = (((rdOf ByteArray.empty t491 0) ++ (⟨#[44, 32]⟩ : ByteArray)) ++ ((rd_T28 t502 0).f1)).toList then ((lockageref05_Drop.f kj11 t476 y507).bind fun t513 => ((lockageref05_Drop.f kj11 t486 y507).bind fun t516 => ((lockageref05_Same.f kj11 t513 t516).bind fun t519 => (if t519 = true then (if t489.toList = ([120] : List UInt8) then (if t481.toList = t462.toList then (some (t482.toList == t463.toList)) else (none)) else (none)) else (none))))) else (none)) else (none)) else (none)) else (none)) else (none)) else (none)) else (none)) = some r := by first | (rw [hy507]; with_reducible exact H) | (have H2_ := (Option.bind_some _ _).symm.trans H; rw [hy507]; with_reducible exact H2_) | (have H2_ := (Option.bind_some _ _).symm.trans H; with_reducible exact H2_) | with_reducible exact H | (rw [hy507]; exact H) | exact H
          have Ny507 := Aside0.mk hy507
          clear hy507
          replace H : (if 0 < (t494.length : Int) then (if 0 < (t491.length : Int) then (if (rdOf ByteArray.empty t491 0).size + 2 ≤ 9223372036854775807 then (if 0 < (t502.length : Int) then (if ((rdOf ByteArray.empty t491 0) ++ (⟨#[44, 32]⟩ : ByteArray)).size + ((rd_T28 t502 0).f1).size ≤ 9223372036854775807 then (if (rdOf ByteArray.empty t494 0).toList = (((rdOf ByteArray.empty t491 0) ++ (⟨#[44, 32]⟩ : ByteArray)) ++ ((rd_T28 t502 0).f1)).toList then ((lockageref05_Drop.f kj11 t476 y507).bind fun t513 => ((lockageref05_Drop.f kj11 t486 y507).bind fun t516 => ((lockageref05_Same.f kj11 t513 t516).bind fun t519 => (if t519 = true then (if t489.toList = ([120] : List UInt8) then (if t481.toList = t462.toList then (some (t482.toList == t463.toList)) else (none)) else (none)) else (none))))) else (none)) else (none)) else (none)) else (none)) else (none)) else (none)) = some r := by rw [if_pos rfl] at H; exact H
          by_cases c52 : 0 < (t494.length : Int)
          · rw [if_pos c52] at H
            have c52b0 : decide (0 < (t494.length : Int)) = true := decide_eq_true c52
            have c52b1 : decide (0 < t494.length) = true := decide_eq_true (by omega)
            clear c52
            by_cases c53 : 0 < (t491.length : Int)
            · rw [if_pos c53] at H
              have c53b0 : decide (0 < (t491.length : Int)) = true := decide_eq_true c53
              have c53b1 : decide (0 < t491.length) = true := decide_eq_true (by omega)
              clear c53
              by_cases c54 : (rdOf ByteArray.empty t491 0).size + 2 ≤ 9223372036854775807
              · rw [if_pos c54] at H
                have c54b0 := eq_true c54
                have c54b1 : decide ((rdOf ByteArray.empty t491 0).size + 2 ≤ 9223372036854775807) = true := decide_eq_true c54
                try have c54b2 : (9223372036854775807 < (rdOf ByteArray.empty t491 0).size + 2) = False := eq_false (Nat.not_lt.2 c54)
                by_cases c55 : 0 < (t502.length : Int)
                · rw [if_pos c55] at H
                  have c55b0 : decide (0 < (t502.length : Int)) = true := decide_eq_true c55
                  have c55b1 : decide (0 < t502.length) = true := decide_eq_true (by omega)
                  clear c55
                  by_cases c56 : ((rdOf ByteArray.empty t491 0) ++ (⟨#[44, 32]⟩ : ByteArray)).size + ((rd_T28 t502 0).f1).size ≤ 9223372036854775807
                  · rw [if_pos c56] at H
                    have c56b0 := eq_true c56
                    have c56b1 : decide (((rdOf ByteArray.empty t491 0) ++ (⟨#[44, 32]⟩ : ByteArray)).size + ((rd_T28 t502 0).f1).size ≤ 9223372036854775807) = true := decide_eq_true c56
                    try have c56b2 : (9223372036854775807 < ((rdOf ByteArray.empty t491 0) ++ (⟨#[44, 32]⟩ : ByteArray)).size + ((rd_T28 t502 0).f1).size) = False := eq_false (Nat.not_lt.2 c56)
                    try have c56b3 : (9223372036854775807 < (rdOf ByteArray.empty t491 0).size + 2 + ((rd_T28 t502 0).f1).size) = False := eq_false (Nat.not_lt.2 (by have z_ := c56; rw [ByteArray.size_append] at z_; exact z_))
                    by_cases c57 : (rdOf ByteArray.empty t494 0).toList = (((rdOf ByteArray.empty t491 0) ++ (⟨#[44, 32]⟩ : ByteArray)) ++ ((rd_T28 t502 0).f1)).toList
                    · rw [if_pos c57] at H
                      have c57b0 : ((rdOf ByteArray.empty t494 0).toList == (((rdOf ByteArray.empty t491 0) ++ (⟨#[44, 32]⟩ : ByteArray)) ++ ((rd_T28 t502 0).f1)).toList) = true := beq_iff_eq.mpr c57
                      have c57b1 : ((rdOf ByteArray.empty t494 0).toList != (((rdOf ByteArray.empty t491 0) ++ (⟨#[44, 32]⟩ : ByteArray)) ++ ((rd_T28 t502 0).f1)).toList) = false := bne_eq_false_iff_eq.mpr c57
                      clear c57
                      replace H := Option.bind_eq_some_iff.mp H
                      obtain ⟨t513, A580, H⟩ := H
                      replace H : ((lockageref05_Drop.f kj11 t486 y507).bind fun t516 => ((lockageref05_Same.f kj11 t513 t516).bind fun t519 => (if t519 = true then (if t489.toList = ([120] : List UInt8) then (if t481.toList = t462.toList then (some (t482.toList == t463.toList)) else (none)) else (none)) else (none)))) = some r := H
                      have A58 := Aside0.mk A580
                      clear A580
                      replace H := Option.bind_eq_some_iff.mp H
                      obtain ⟨t516, A590, H⟩ := H
                      replace H : ((lockageref05_Same.f kj11 t513 t516).bind fun t519 => (if t519 = true then (if t489.toList = ([120] : List UInt8) then (if t481.toList = t462.toList then (some (t482.toList == t463.toList)) else (none)) else (none)) else (none))) = some r := H
                      have A59 := Aside0.mk A590
                      clear A590
                      replace H := Option.bind_eq_some_iff.mp H
                      obtain ⟨t519, A600, H⟩ := H
                      replace H : (if t519 = true then (if t489.toList = ([120] : List UInt8) then (if t481.toList = t462.toList then (some (t482.toList == t463.toList)) else (none)) else (none)) else (none)) = some r := H
                      have A60 := Aside0.mk A600
                      clear A600
                      by_cases c61 : t519 = true
                      · subst c61
                        have H1 : (if t489.toList = ([120] : List UInt8) then (if t481.toList = t462.toList then (some (t482.toList == t463.toList)) else (none)) else (none)) = some r := by rw [if_pos rfl] at H; exact H
                        clear H
                        have H := H1
                        clear H1
                        by_cases c62 : t489.toList = ([120] : List UInt8)
                        · rw [if_pos c62] at H
                          have c62b0 : (t489.toList == ([120] : List UInt8)) = true := beq_iff_eq.mpr c62
                          have c62b1 : (t489.toList != ([120] : List UInt8)) = false := bne_eq_false_iff_eq.mpr c62
                          clear c62
                          by_cases c63 : t481.toList = t462.toList
                          · rw [if_pos c63] at H
                            have c63b0 : (t481.toList == t462.toList) = true := beq_iff_eq.mpr c63
                            have c63b1 : (t481.toList != t462.toList) = false := bne_eq_false_iff_eq.mpr c63
                            clear c63
                            obtain rfl := Option.some.inj H
                            try go_wp2_with (first | ((with_reducible refine gate_dst (N := 56) rfl ?_); (try (refine gate_guard (by rfl) ?_; dsimp only)); refine Kd.R_lit Kd.string _ 9 ?hg (N := 56) ?hd (xs := ([(⟨#[120, 45, 102, 111, 114, 119, 97, 114, 100, 101, 100, 45, 102, 111, 114]⟩ : ByteArray)] : List ByteArray)) (inner := [.string (⟨#[120, 45, 102, 111, 114, 119, 97, 114, 100, 101, 100, 45, 102, 111, 114]⟩ : ByteArray)]) (ok := fun _ => True) (okp := fun _ => True) ?hr ?hp (fun _ hk => hk) trivial (Below.refl _ _) (Nat.le_refl _) (by simp) ?_; (case hd => rfl); (case hg => rfl); (case hr => first | (go_simp; done) | (go_simp; rfl)); (case hp => exact (Reps.one (show Kd.M Kd.string _ _ _ (⟨#[120, 45, 102, 111, 114, 119, 97, 114, 100, 101, 100, 45, 102, 111, 114]⟩ : ByteArray) [.string (⟨#[120, 45, 102, 111, 114, 119, 97, 114, 100, 101, 100, 45, 102, 111, 114]⟩ : ByteArray)] from rfl) (Reps.none _ _))); intro v508 w64 ho65 hb hg_ hnew_; clear hg_ hnew_; (first | rw [← Ny507.out] at ho65 | (simp only [Int.reduceToNat] at ho65; rw [← Ny507.out] at ho65)); have n0_ := Aside0.mk (Kd.R_elder' (by (with_reducible repeat (first | apply Kd.R_alloc | apply Kd.R_drewN | apply Kd.R_drew)); exact HO_11.out) (Kd.R_base ho65) hb); have n1_ := Aside0.mk (Kd.R_elder' (by (with_reducible repeat (first | apply Kd.R_alloc | apply Kd.R_drewN | apply Kd.R_drew)); exact HO_12.out) (Kd.R_base ho65) hb); have n2_ := Aside0.mk (Kd.R_below (by (with_reducible repeat (first | apply Kd.R_alloc | apply Kd.R_drewN | apply Kd.R_drew)); exact HO_471005.out) hb); have n3_ := Aside0.mk (Kd.R_below (by (with_reducible repeat (first | apply Kd.R_alloc | apply Kd.R_drewN | apply Kd.R_drew)); exact HO_481005.out) hb); have n4_ := Aside0.mk (Kd.R_below (by (with_reducible repeat (first | apply Kd.R_alloc | apply Kd.R_drewN | apply Kd.R_drew)); exact HO_491005.out) hb); have n5_ := Aside0.mk (Kd.R_below (by (with_reducible repeat (first | apply Kd.R_alloc | apply Kd.R_drewN | apply Kd.R_drew)); exact HO_507005.out) hb); have n6_ := Aside0.mk (Kd.R_lower (Kd.R_new' (Kd.R_new' ho65 (Kd.R_lt (by (with_reducible repeat (first | apply Kd.R_alloc | apply Kd.R_drewN | apply Kd.R_drew)); exact HO_11.out))) (Kd.R_lt (by (with_reducible repeat (first | apply Kd.R_alloc | apply Kd.R_drewN | apply Kd.R_drew)); exact HO_12.out))) (below_size (by repeat (first | (with_reducible first | exact HB.out | apply below_alloc | apply pw_below_drewN | apply below_drew1 | refine below_set ?_ GE470.out | refine below_set ?_ GE480.out | refine below_set ?_ GE490.out | refine below_set ?_ GE506.out) | exact HB.out)))); have n7_ := Aside0.mk (blk_below (g := gb470) (o := .cells #[.string t462, .string t463, .int .i64 t464, .string t465, .int .i64 t466, .slice Ao15 t467.length co15, .string (⟨#[120]⟩ : ByteArray)] 26 (0, 0)) (by (with_reducible repeat (first | refine blk_drewN ?_ _ | refine blk_drew ?_ | refine blk_alloc ?_ _)); exact BK470.out) hb); have n8_ := Aside0.mk (blk_below (g := gb480) (o := .cells #[.string t471, .string t472, .int .i64 t473, .string t474, .int .i64 t475, .slice Ao22 t476.length co22, .string t479] 26 (0, 0)) (by (with_reducible repeat (first | refine blk_drewN ?_ _ | refine blk_drew ?_ | refine blk_alloc ?_ _)); exact BK480.out) hb); have n9_ := Aside0.mk (blk_below (g := gb490) (o := .cells #[.string t481, .string t482, .int .i64 t483, .string t484, .int .i64 t485, .slice Ao28 t486.length co28, .string t489] 26 (0, 0)) (by (with_reducible repeat (first | refine blk_drewN ?_ _ | refine blk_drew ?_ | refine blk_alloc ?_ _)); exact BK490.out) hb); have n10_ := Aside0.mk (blk_below (g := gb506) (o := .cells #[.string t497, .string t498, .int .i64 t499, .string t500, .int .i64 t501, .slice Ao39 t502.length co39, .string t505] 26 (0, 0)) (by (with_reducible repeat (first | refine blk_drewN ?_ _ | refine blk_drew ?_ | refine blk_alloc ?_ _)); exact BK506.out) hb); have n11_ := Aside0.mk (below_step (by repeat (first | (with_reducible first | exact HB.out | apply below_alloc | apply pw_below_drewN | apply below_drew1 | refine below_set ?_ GE470.out | refine below_set ?_ GE480.out | refine below_set ?_ GE490.out | refine below_set ?_ GE506.out) | exact HB.out)) hb); clear HO_11; clear HO_12; clear HO_471005; clear HO_481005; clear HO_491005; clear HO_507005; clear BK470; clear BK480; clear BK490; clear BK506; clear HB; have HO_11 := n0_; have HO_12 := n1_; have HO_471005 := n2_; have HO_481005 := n3_; have HO_491005 := n4_; have HO_507005 := n5_; have HO509 := n6_; have BK470 := n7_; have BK480 := n8_; have BK490 := n9_; have BK506 := n10_; have HB := n11_; clear n0_ n1_ n2_ n3_ n4_ n5_ n6_ n7_ n8_ n9_ n10_ n11_; clear hb ho65))
                            have n0_ := Aside0.mk (Kd.R_drew HO_11.out)
                            have n1_ := Aside0.mk (Kd.R_drew HO_12.out)
                            have n2_ := Aside0.mk (Kd.R_drew HO_471005.out)
                            have n3_ := Aside0.mk (Kd.R_drew HO_481005.out)
                            have n4_ := Aside0.mk (Kd.R_drew HO_491005.out)
                            have n5_ := Aside0.mk (Kd.R_drew HO_507005.out)
                            have n6_ := Aside0.mk (Kd.R_drew HO509.out)
                            have n7_ := Aside0.mk (blk_drew BK470.out)
                            have n8_ := Aside0.mk (blk_drew BK480.out)
                            have n9_ := Aside0.mk (blk_drew BK490.out)
                            have n10_ := Aside0.mk (blk_drew BK506.out)
                            have n11_ := Aside0.mk (below_drew1 HB.out)
                            clear HO_11
                            clear HO_12
                            clear HO_471005
                            clear HO_481005
                            clear HO_491005
                            clear HO_507005
                            clear HO509
                            clear BK470
                            clear BK480
                            clear BK490
                            clear BK506
                            clear HB
                            have HO_11 := n0_
                            have HO_12 := n1_
                            have HO_471005 := n2_
                            have HO_481005 := n3_
                            have HO_491005 := n4_
                            have HO_507005 := n5_
                            have HO509 := n6_
                            have BK470 := n7_
                            have BK480 := n8_
                            have BK490 := n9_
                            have BK506 := n10_
                            have HB := n11_
                            clear n0_ n1_ n2_ n3_ n4_ n5_ n6_ n7_ n8_ n9_ n10_ n11_
                            obtain ⟨Ao67, co67, eo67⟩ := Kd.R_slice HO_12.out
                            (first | subst eo67 | (injection eo67 with f1_ f2_ f3_; have f4_ := f1_.symm; have f5_ := f3_.symm; clear f1_ f2_ f3_; subst f4_; subst f5_))
                            have p510 : 0 ≤ (0 : Int) := (by omega)
                            have q510 : 0 < (t494.length : Int) := of_decide_eq_true (by first | (with_reducible assumption) | assumption)
                            obtain ⟨ad510, e510, hx510_0⟩ := Kd.at_string (Kd.R_reads' HO_12.out).2.2 0 p510 q510
                            cases e510
                            have qi510 : (0 < t494.length) = True := eq_true (by omega)
                            (try rw [show ((0 : Int)).toNat = 0 from rfl] at hx510_0)
                            (try rw [Addr.add_zero'] at hx510_0)
                            replace p510 := eq_true p510
                            replace q510 := eq_true q510
                            obtain ⟨Ao68, co68, eo68⟩ := Kd.R_slice HO_11.out
                            (first | subst eo68 | (injection eo68 with f1_ f2_ f3_; have f4_ := f1_.symm; have f5_ := f3_.symm; clear f1_ f2_ f3_; subst f4_; subst f5_))
                            have p511 : 0 ≤ (0 : Int) := (by omega)
                            have q511 : 0 < (t491.length : Int) := of_decide_eq_true (by first | (with_reducible assumption) | assumption)
                            obtain ⟨ad511, e511, hx511_0⟩ := Kd.at_string (Kd.R_reads' HO_11.out).2.2 0 p511 q511
                            cases e511
                            have qi511 : (0 < t491.length) = True := eq_true (by omega)
                            (try rw [show ((0 : Int)).toNat = 0 from rfl] at hx511_0)
                            (try rw [Addr.add_zero'] at hx511_0)
                            replace p511 := eq_true p511
                            replace q511 := eq_true q511
                            have p512 : 0 ≤ (0 : Int) := (by omega)
                            have q512 : 0 < (t502.length : Int) := of_decide_eq_true (by first | (with_reducible assumption) | assumption)
                            obtain ⟨ad512, e512, hx512_0, hx512_1⟩ := at_T28 (Kd.R_reads' HO_507005.out).2.2 0 p512 q512
                            cases e512
                            have qi512 : (0 < t502.length) = True := eq_true (by omega)
                            (try rw [show ((0 : Int)).toNat = 0 from rfl] at hx512_0)
                            (try rw [show 0 * 2 = 0 from rfl] at hx512_0)
                            (try rw [Addr.add_zero'] at hx512_0)
                            (try rw [show ((0 : Int)).toNat = 0 from rfl] at hx512_1)
                            (try rw [show 0 * 2 = 0 from rfl] at hx512_1)
                            (try rw [Addr.add_zero'] at hx512_1)
                            replace p512 := eq_true p512
                            replace q512 := eq_true q512
                            obtain ⟨Ao69, co69, eo69⟩ := Kd.R_slice HO509.out
                            (first | subst eo69 | (injection eo69 with f1_ f2_ f3_; have f4_ := f1_.symm; have f5_ := f3_.symm; clear f1_ f2_ f3_; subst f4_; subst f5_))
                            refine start_ (n := 55) (S := fun w' => w'.cell? ⟨gb506, 0, none⟩ = some (.string t497) ∧ w'.cell? ⟨gb506, 1, none⟩ = some (.string t498) ∧ w'.cell? ⟨gb506, 2, none⟩ = some (.int .i64 t499) ∧ w'.cell? ⟨gb506, 3, none⟩ = some (.string t500) ∧ w'.cell? ⟨gb506, 4, none⟩ = some (.int .i64 t501) ∧ w'.cell? ⟨gb506, 5, none⟩ = some (.slice (some ad512) t502.length co39) ∧ w'.cell? ⟨gb506, 6, none⟩ = some (.string t505) ∧ w'.cell? ⟨gb480, 0, none⟩ = some (.string t471) ∧ w'.cell? ⟨gb480, 1, none⟩ = some (.string t472) ∧ w'.cell? ⟨gb480, 2, none⟩ = some (.int .i64 t473) ∧ w'.cell? ⟨gb480, 3, none⟩ = some (.string t474) ∧ w'.cell? ⟨gb480, 4, none⟩ = some (.int .i64 t475) ∧ w'.cell? ⟨gb480, 5, none⟩ = some (.slice Ao22 t476.length co22) ∧ w'.cell? ⟨gb480, 6, none⟩ = some (.string t479) ∧ w'.cell? ⟨gb490, 0, none⟩ = some (.string t481) ∧ w'.cell? ⟨gb490, 1, none⟩ = some (.string t482) ∧ w'.cell? ⟨gb490, 2, none⟩ = some (.int .i64 t483) ∧ w'.cell? ⟨gb490, 3, none⟩ = some (.string t484) ∧ w'.cell? ⟨gb490, 4, none⟩ = some (.int .i64 t485) ∧ w'.cell? ⟨gb490, 5, none⟩ = some (.slice Ao28 t486.length co28) ∧ w'.cell? ⟨gb490, 6, none⟩ = some (.string t489) ∧ w'.cell? ⟨gb470, 0, none⟩ = some (.string t462) ∧ w'.cell? ⟨gb470, 1, none⟩ = some (.string t463) ∧ w'.cell? ⟨gb470, 2, none⟩ = some (.int .i64 t464) ∧ w'.cell? ⟨gb470, 3, none⟩ = some (.string t465) ∧ w'.cell? ⟨gb470, 4, none⟩ = some (.int .i64 t466) ∧ w'.cell? ⟨gb470, 5, none⟩ = some (.slice Ao15 t467.length co15) ∧ w'.cell? ⟨gb470, 6, none⟩ = some (.string (⟨#[120]⟩ : ByteArray)) ∧ w'.cell? ad510 = some (.string (rdOf ByteArray.empty t494 0)) ∧ w'.cell? ad511 = some (.string (rdOf ByteArray.empty t491 0)) ∧ w'.cell? ad512 = some (.string ((rd_T28 t502 0).f0)) ∧ w'.cell? ⟨ad512.block, ad512.off + 1, none⟩ = some (.string ((rd_T28 t502 0).f1))) (ds := []) #[false, false, false, false, false, false, false, false, false, false, false, false, false, false, false, false, false, false, false, false, false, false, false, false, false, false, false, false, false, false, false, false, false, false, false, false, false, false, false, false, false, false, false, false, false, false, false, false, false, false, false, false, false, false, false] (by kernel_rfl) rfl rfl ⟨(blk_cell BK506.out 0).trans rfl, (blk_cell BK506.out 1).trans rfl, (blk_cell BK506.out 2).trans rfl, (blk_cell BK506.out 3).trans rfl, (blk_cell BK506.out 4).trans rfl, (blk_cell BK506.out 5).trans rfl, (blk_cell BK506.out 6).trans rfl, (blk_cell BK480.out 0).trans rfl, (blk_cell BK480.out 1).trans rfl, (blk_cell BK480.out 2).trans rfl, (blk_cell BK480.out 3).trans rfl, (blk_cell BK480.out 4).trans rfl, (blk_cell BK480.out 5).trans rfl, (blk_cell BK480.out 6).trans rfl, (blk_cell BK490.out 0).trans rfl, (blk_cell BK490.out 1).trans rfl, (blk_cell BK490.out 2).trans rfl, (blk_cell BK490.out 3).trans rfl, (blk_cell BK490.out 4).trans rfl, (blk_cell BK490.out 5).trans rfl, (blk_cell BK490.out 6).trans rfl, (blk_cell BK470.out 0).trans rfl, (blk_cell BK470.out 1).trans rfl, (blk_cell BK470.out 2).trans rfl, (blk_cell BK470.out 3).trans rfl, (blk_cell BK470.out 4).trans rfl, (blk_cell BK470.out 5).trans rfl, (blk_cell BK470.out 6).trans rfl, hx510_0, hx511_0, hx512_0, hx512_1⟩ (fun hHeld => ?_); refine with_tabW lockagelaw15_ForwardTwice.tab12 lockagelaw15_ForwardTwice.bits12 (fun HT_ HW_ => ?_)
                            generalize w64.drew = w66 at HO_11 HO_12 HO_471005 HO_481005 HO_491005 HO_507005 HO509 BK470 BK480 BK490 BK506 HB hx510_0 hx511_0 hx512_0 hx512_1 hHeld ⊢
                            refine pure_ (i := 0) (N := some 57) (v := ?_) (a' := ?_) #[true, false, false, false, false, false, false, false, false, false, false, false, false, false, false, false, false, false, false, false, false, false, false, false, false, false, false, false, false, false, false, false, false, false, false, false, false, false, false, false, false, false, false, false, false, false, false, false, false, false, false, false, false, false, false] rfl rfl (any_of HT_.out (by kernel_rfl)) (fun _ _ _ h => h) (Or.inl ⟨by rfl, ?_⟩) ?_ ?_
                            rotate_left
                            · intro w'
                              go_simp
                              with_reducible rfl
                            rotate_left
                            · simp only [Act.put, List.setIfInBounds_toArray, List.set_cons_zero, List.set_cons_succ, i64_w, i32_w]
                              rfl
                            refine pure_ (i := 1) (N := some 58) (v := ?_) (a' := ?_) #[true, true, false, false, false, false, false, false, false, false, false, false, false, false, false, false, false, false, false, false, false, false, false, false, false, false, false, false, false, false, false, false, false, false, false, false, false, false, false, false, false, false, false, false, false, false, false, false, false, false, false, false, false, false, false] rfl rfl (any_of HT_.out (by kernel_rfl)) (fun _ _ _ h => h) (Or.inl ⟨by rfl, ?_⟩) ?_ ?_
                            rotate_left
                            · intro w'
                              go_simp
                              with_reducible rfl
                            rotate_left
                            · simp only [Act.put, List.setIfInBounds_toArray, List.set_cons_zero, List.set_cons_succ, i64_w, i32_w]
                              rfl
                            refine pure_ (i := 2) (N := some 59) (v := ?_) (a' := ?_) #[true, true, true, false, false, false, false, false, false, false, false, false, false, false, false, false, false, false, false, false, false, false, false, false, false, false, false, false, false, false, false, false, false, false, false, false, false, false, false, false, false, false, false, false, false, false, false, false, false, false, false, false, false, false, false] rfl rfl (any_of HT_.out (by kernel_rfl)) (fun _ _ _ h => h) (Or.inl ⟨by rfl, ?_⟩) ?_ ?_
                            rotate_left
                            · intro w'
                              go_simp
                              with_reducible rfl
                            rotate_left
                            · simp only [Act.put, List.setIfInBounds_toArray, List.set_cons_zero, List.set_cons_succ, i64_w, i32_w]
                              rfl
                            refine pure_ (i := 3) (N := some 60) (v := ?_) (a' := ?_) #[true, true, true, true, false, false, false, false, false, false, false, false, false, false, false, false, false, false, false, false, false, false, false, false, false, false, false, false, false, false, false, false, false, false, false, false, false, false, false, false, false, false, false, false, false, false, false, false, false, false, false, false, false, false, false] rfl rfl (any_of HT_.out (by kernel_rfl)) (fun _ _ _ h => h) (Or.inl ⟨by rfl, ?_⟩) ?_ ?_
                            rotate_left
                            · intro w'
                              go_simp
                              with_reducible rfl
                            rotate_left
                            · simp only [Act.put, List.setIfInBounds_toArray, List.set_cons_zero, List.set_cons_succ, i64_w, i32_w]
                              rfl
                            refine pure_ (i := 5) (N := some 62) (v := ?_) (a' := ?_) #[true, true, true, true, false, true, false, false, false, false, false, false, false, false, false, false, false, false, false, false, false, false, false, false, false, false, false, false, false, false, false, false, false, false, false, false, false, false, false, false, false, false, false, false, false, false, false, false, false, false, false, false, false, false, false] rfl rfl (any_of HT_.out (by kernel_rfl)) (fun _ _ _ h => h) (Or.inl ⟨by rfl, ?_⟩) ?_ ?_
                            rotate_left
                            · intro w'
                              go_simp
                              with_reducible rfl
                            rotate_left
                            · simp only [Act.put, List.setIfInBounds_toArray, List.set_cons_zero, List.set_cons_succ, i64_w, i32_w]
                              rfl
                            refine pure_ (i := 6) (N := some 63) (v := ?_) (a' := ?_) #[true, true, true, true, false, true, true, false, false, false, false, false, false, false, false, false, false, false, false, false, false, false, false, false, false, false, false, false, false, false, false, false, false, false, false, false, false, false, false, false, false, false, false, false, false, false, false, false, false, false, false, false, false, false, false] rfl rfl (any_of HT_.out (by kernel_rfl)) (fun _ _ _ h => h) (Or.inl ⟨by rfl, ?_⟩) ?_ ?_
                            rotate_left
                            · intro w'
                              go_simp
                              with_reducible rfl
                            rotate_left
                            · simp only [Act.put, List.setIfInBounds_toArray, List.set_cons_zero, List.set_cons_succ, i64_w, i32_w]
                              rfl
                            refine pure_ (i := 9) (N := some 66) (v := ?_) (a' := ?_) #[true, true, true, true, false, true, true, false, false, true, false, false, false, false, false, false, false, false, false, false, false, false, false, false, false, false, false, false, false, false, false, false, false, false, false, false, false, false, false, false, false, false, false, false, false, false, false, false, false, false, false, false, false, false, false] rfl rfl (any_of HT_.out (by kernel_rfl)) (fun _ _ _ h => h) (Or.inl ⟨by rfl, ?_⟩) ?_ ?_
                            rotate_left
                            · intro w'
                              go_simp
                              with_reducible rfl
                            rotate_left
                            · simp only [Act.put, List.setIfInBounds_toArray, List.set_cons_zero, List.set_cons_succ, i64_w, i32_w]
                              rfl
                            refine pure_ (i := 10) (N := some 67) (v := ?_) (a' := ?_) #[true, true, true, true, false, true, true, false, false, true, true, false, false, false, false, false, false, false, false, false, false, false, false, false, false, false, false, false, false, false, false, false, false, false, false, false, false, false, false, false, false, false, false, false, false, false, false, false, false, false, false, false, false, false, false] rfl rfl (any_of HT_.out (by kernel_rfl)) (fun _ _ _ h => h) (Or.inl ⟨by rfl, ?_⟩) ?_ ?_
                            rotate_left
                            · intro w'
                              go_simp
                              with_reducible rfl
                            rotate_left
                            · simp only [Act.put, List.setIfInBounds_toArray, List.set_cons_zero, List.set_cons_succ, i64_w, i32_w]
                              rfl
                            refine take_ (i := 4) (N := some 61) (v := ?_) (a' := ?_) #[true, true, true, true, true, true, true, false, false, true, true, false, false, false, false, false, false, false, false, false, false, false, false, false, false, false, false, false, false, false, false, false, false, false, false, false, false, false, false, false, false, false, false, false, false, false, false, false, false, false, false, false, false, false, false] rfl rfl (take_ofW HT_.out HW_.out (by kernel_rfl)) (fun _ _ _ h => h) (Or.inl ⟨by rfl, ?_⟩) hHeld ?_ ?_
                            rotate_left
                            · rintro w' ⟨s0, s1, s2, s3, s4, s5, s6, s7, s8, s9, s10, s11, s12, s13, s14, s15, s16, s17, s18, s19, s20, s21, s22, s23, s24, s25, s26, s27, s28, s29, s30, s31⟩
                              go_simp
                              with_reducible rfl
                            rotate_left
                            · simp only [Act.put, List.setIfInBounds_toArray, List.set_cons_zero, List.set_cons_succ, i64_w, i32_w]
                              rfl
                            refine take_ (i := 7) (N := some 64) (v := ?_) (a' := ?_) #[true, true, true, true, true, true, true, true, false, true, true, false, false, false, false, false, false, false, false, false, false, false, false, false, false, false, false, false, false, false, false, false, false, false, false, false, false, false, false, false, false, false, false, false, false, false, false, false, false, false, false, false, false, false, false] rfl rfl (take_ofW HT_.out HW_.out (by kernel_rfl)) (fun _ _ _ h => h) (Or.inl ⟨by rfl, ?_⟩) hHeld ?_ ?_
                            rotate_left
                            · rintro w' ⟨s0, s1, s2, s3, s4, s5, s6, s7, s8, s9, s10, s11, s12, s13, s14, s15, s16, s17, s18, s19, s20, s21, s22, s23, s24, s25, s26, s27, s28, s29, s30, s31⟩
                              go_simp
                              with_reducible rfl
                            rotate_left
                            · simp only [Act.put, List.setIfInBounds_toArray, List.set_cons_zero, List.set_cons_succ, i64_w, i32_w]
                              rfl
                            refine pure_ (i := 8) (N := some 65) (v := ?_) (a' := ?_) #[true, true, true, true, true, true, true, true, true, true, true, false, false, false, false, false, false, false, false, false, false, false, false, false, false, false, false, false, false, false, false, false, false, false, false, false, false, false, false, false, false, false, false, false, false, false, false, false, false, false, false, false, false, false, false] rfl rfl (any_of HT_.out (by kernel_rfl)) (fun _ _ _ h => h) (Or.inl ⟨by rfl, ?_⟩) ?_ ?_
                            rotate_left
                            · intro w'
                              go_simp
                              with_reducible rfl
                            rotate_left
                            · simp only [Act.put, List.setIfInBounds_toArray, List.set_cons_zero, List.set_cons_succ, i64_w, i32_w]
                              rfl
                            refine take_ (i := 11) (N := some 68) (v := ?_) (a' := ?_) #[true, true, true, true, true, true, true, true, true, true, true, true, false, false, false, false, false, false, false, false, false, false, false, false, false, false, false, false, false, false, false, false, false, false, false, false, false, false, false, false, false, false, false, false, false, false, false, false, false, false, false, false, false, false, false] rfl rfl (take_ofW HT_.out HW_.out (by kernel_rfl)) (fun _ _ _ h => h) (Or.inl ⟨by rfl, ?_⟩) hHeld ?_ ?_
                            rotate_left
                            · rintro w' ⟨s0, s1, s2, s3, s4, s5, s6, s7, s8, s9, s10, s11, s12, s13, s14, s15, s16, s17, s18, s19, s20, s21, s22, s23, s24, s25, s26, s27, s28, s29, s30, s31⟩
                              go_simp
                              with_reducible rfl
                            rotate_left
                            · simp only [Act.put, List.setIfInBounds_toArray, List.set_cons_zero, List.set_cons_succ, i64_w, i32_w]
                              rfl
                            refine pure_ (i := 12) (N := some 69) (v := ?_) (a' := ?_) #[true, true, true, true, true, true, true, true, true, true, true, true, true, false, false, false, false, false, false, false, false, false, false, false, false, false, false, false, false, false, false, false, false, false, false, false, false, false, false, false, false, false, false, false, false, false, false, false, false, false, false, false, false, false, false] rfl rfl (any_of HT_.out (by kernel_rfl)) (fun _ _ _ h => h) (Or.inl ⟨by rfl, ?_⟩) ?_ ?_
                            rotate_left
                            · intro w'
                              go_simp
                              with_reducible rfl
                            rotate_left
                            · simp only [Act.put, List.setIfInBounds_toArray, List.set_cons_zero, List.set_cons_succ, i64_w, i32_w]
                              rfl
                            refine pure_ (i := 13) (N := some 70) (v := ?_) (a' := ?_) #[true, true, true, true, true, true, true, true, true, true, true, true, true, true, false, false, false, false, false, false, false, false, false, false, false, false, false, false, false, false, false, false, false, false, false, false, false, false, false, false, false, false, false, false, false, false, false, false, false, false, false, false, false, false, false] rfl rfl (any_of HT_.out (by kernel_rfl)) (fun _ _ _ h => h) (Or.inl ⟨by rfl, ?_⟩) ?_ ?_
                            rotate_left
                            · intro w'
                              go_simp
                              with_reducible rfl
                            rotate_left
                            · simp only [Act.put, List.setIfInBounds_toArray, List.set_cons_zero, List.set_cons_succ, i64_w, i32_w]
                              rfl
                            refine take_ (i := 14) (N := some 71) (v := ?_) (a' := ?_) #[true, true, true, true, true, true, true, true, true, true, true, true, true, true, true, false, false, false, false, false, false, false, false, false, false, false, false, false, false, false, false, false, false, false, false, false, false, false, false, false, false, false, false, false, false, false, false, false, false, false, false, false, false, false, false] rfl rfl (take_ofW HT_.out HW_.out (by kernel_rfl)) (fun _ _ _ h => h) (Or.inl ⟨by rfl, ?_⟩) hHeld ?_ ?_
                            rotate_left
                            · rintro w' ⟨s0, s1, s2, s3, s4, s5, s6, s7, s8, s9, s10, s11, s12, s13, s14, s15, s16, s17, s18, s19, s20, s21, s22, s23, s24, s25, s26, s27, s28, s29, s30, s31⟩
                              go_simp
                              with_reducible rfl
                            rotate_left
                            · simp only [Act.put, List.setIfInBounds_toArray, List.set_cons_zero, List.set_cons_succ, i64_w, i32_w]
                              rfl
                            refine pure_ (i := 15) (N := some 72) (v := ?_) (a' := ?_) #[true, true, true, true, true, true, true, true, true, true, true, true, true, true, true, true, false, false, false, false, false, false, false, false, false, false, false, false, false, false, false, false, false, false, false, false, false, false, false, false, false, false, false, false, false, false, false, false, false, false, false, false, false, false, false] rfl rfl (any_of HT_.out (by kernel_rfl)) (fun _ _ _ h => h) (Or.inl ⟨by rfl, ?_⟩) ?_ ?_
                            rotate_left
                            · intro w'
                              go_simp
                              with_reducible rfl
                            rotate_left
                            · simp only [Act.put, List.setIfInBounds_toArray, List.set_cons_zero, List.set_cons_succ, i64_w, i32_w]
                              rfl
                            refine pure_ (i := 16) (N := some 73) (v := ?_) (a' := ?_) #[true, true, true, true, true, true, true, true, true, true, true, true, true, true, true, true, true, false, false, false, false, false, false, false, false, false, false, false, false, false, false, false, false, false, false, false, false, false, false, false, false, false, false, false, false, false, false, false, false, false, false, false, false, false, false] rfl rfl (any_of HT_.out (by kernel_rfl)) (fun _ _ _ h => h) (Or.inl ⟨by rfl, ?_⟩) ?_ ?_
                            rotate_left
                            · intro w'
                              go_simp
                              with_reducible rfl
                            rotate_left
                            · simp only [Act.put, List.setIfInBounds_toArray, List.set_cons_zero, List.set_cons_succ, i64_w, i32_w]
                              rfl
                            refine pure_ (i := 17) (N := some 74) (v := ?_) (a' := ?_) #[true, true, true, true, true, true, true, true, true, true, true, true, true, true, true, true, true, true, false, false, false, false, false, false, false, false, false, false, false, false, false, false, false, false, false, false, false, false, false, false, false, false, false, false, false, false, false, false, false, false, false, false, false, false, false] rfl rfl (any_of HT_.out (by kernel_rfl)) (fun _ _ _ h => h) (Or.inl ⟨by rfl, ?_⟩) ?_ ?_
                            rotate_left
                            · intro w'
                              go_simp
                              with_reducible rfl
                            rotate_left
                            · simp only [Act.put, List.setIfInBounds_toArray, List.set_cons_zero, List.set_cons_succ, i64_w, i32_w]
                              rfl
                            refine pure_ (i := 18) (N := some 75) (v := ?_) (a' := ?_) #[true, true, true, true, true, true, true, true, true, true, true, true, true, true, true, true, true, true, true, false, false, false, false, false, false, false, false, false, false, false, false, false, false, false, false, false, false, false, false, false, false, false, false, false, false, false, false, false, false, false, false, false, false, false, false] rfl rfl (any_of HT_.out (by kernel_rfl)) (fun _ _ _ h => h) (Or.inl ⟨by rfl, ?_⟩) ?_ ?_
                            rotate_left
                            · intro w'
                              go_simp
                              with_reducible rfl
                            rotate_left
                            · simp only [Act.put, List.setIfInBounds_toArray, List.set_cons_zero, List.set_cons_succ, i64_w, i32_w]
                              rfl
                            refine pure_ (i := 19) (N := some 76) (v := ?_) (a' := ?_) #[true, true, true, true, true, true, true, true, true, true, true, true, true, true, true, true, true, true, true, true, false, false, false, false, false, false, false, false, false, false, false, false, false, false, false, false, false, false, false, false, false, false, false, false, false, false, false, false, false, false, false, false, false, false, false] rfl rfl (any_of HT_.out (by kernel_rfl)) (fun _ _ _ h => h) (Or.inl ⟨by rfl, ?_⟩) ?_ ?_
                            rotate_left
                            · intro w'
                              go_simp
                              with_reducible rfl
                            rotate_left
                            · simp only [Act.put, List.setIfInBounds_toArray, List.set_cons_zero, List.set_cons_succ, i64_w, i32_w]
                              rfl
                            refine pure_ (i := 20) (N := some 77) (v := ?_) (a' := ?_) #[true, true, true, true, true, true, true, true, true, true, true, true, true, true, true, true, true, true, true, true, true, false, false, false, false, false, false, false, false, false, false, false, false, false, false, false, false, false, false, false, false, false, false, false, false, false, false, false, false, false, false, false, false, false, false] rfl rfl (any_of HT_.out (by kernel_rfl)) (fun _ _ _ h => h) (Or.inl ⟨by rfl, ?_⟩) ?_ ?_
                            rotate_left
                            · intro w'
                              go_simp
                              with_reducible rfl
                            rotate_left
                            · simp only [Act.put, List.setIfInBounds_toArray, List.set_cons_zero, List.set_cons_succ, i64_w, i32_w]
                              rfl
                            refine pure_ (i := 22) (N := some 79) (v := ?_) (a' := ?_) #[true, true, true, true, true, true, true, true, true, true, true, true, true, true, true, true, true, true, true, true, true, false, true, false, false, false, false, false, false, false, false, false, false, false, false, false, false, false, false, false, false, false, false, false, false, false, false, false, false, false, false, false, false, false, false] rfl rfl (any_of HT_.out (by kernel_rfl)) (fun _ _ _ h => h) (Or.inl ⟨by rfl, ?_⟩) ?_ ?_
                            rotate_left
                            · intro w'
                              go_simp
                              with_reducible rfl
                            rotate_left
                            · simp only [Act.put, List.setIfInBounds_toArray, List.set_cons_zero, List.set_cons_succ, i64_w, i32_w]
                              rfl
                            refine pure_ (i := 24) (N := some 81) (v := ?_) (a' := ?_) #[true, true, true, true, true, true, true, true, true, true, true, true, true, true, true, true, true, true, true, true, true, false, true, false, true, false, false, false, false, false, false, false, false, false, false, false, false, false, false, false, false, false, false, false, false, false, false, false, false, false, false, false, false, false, false] rfl rfl (any_of HT_.out (by kernel_rfl)) (fun _ _ _ h => h) (Or.inl ⟨by rfl, ?_⟩) ?_ ?_
                            rotate_left
                            · intro w'
                              go_simp
                              with_reducible rfl
                            rotate_left
                            · simp only [Act.put, List.setIfInBounds_toArray, List.set_cons_zero, List.set_cons_succ, i64_w, i32_w]
                              rfl
                            refine pure_ (i := 25) (N := some 82) (v := ?_) (a' := ?_) #[true, true, true, true, true, true, true, true, true, true, true, true, true, true, true, true, true, true, true, true, true, false, true, false, true, true, false, false, false, false, false, false, false, false, false, false, false, false, false, false, false, false, false, false, false, false, false, false, false, false, false, false, false, false, false] rfl rfl (any_of HT_.out (by kernel_rfl)) (fun _ _ _ h => h) (Or.inl ⟨by rfl, ?_⟩) ?_ ?_
                            rotate_left
                            · intro w'
                              go_simp
                              with_reducible rfl
                            rotate_left
                            · simp only [Act.put, List.setIfInBounds_toArray, List.set_cons_zero, List.set_cons_succ, i64_w, i32_w]
                              rfl
                            refine pure_ (i := 27) (N := some 84) (v := ?_) (a' := ?_) #[true, true, true, true, true, true, true, true, true, true, true, true, true, true, true, true, true, true, true, true, true, false, true, false, true, true, false, true, false, false, false, false, false, false, false, false, false, false, false, false, false, false, false, false, false, false, false, false, false, false, false, false, false, false, false] rfl rfl (any_of HT_.out (by kernel_rfl)) (fun _ _ _ h => h) (Or.inl ⟨by rfl, ?_⟩) ?_ ?_
                            rotate_left
                            · intro w'
                              go_simp
                              with_reducible rfl
                            rotate_left
                            · simp only [Act.put, List.setIfInBounds_toArray, List.set_cons_zero, List.set_cons_succ, i64_w, i32_w]
                              rfl
                            refine take_ (i := 21) (N := some 78) (v := ?_) (a' := ?_) #[true, true, true, true, true, true, true, true, true, true, true, true, true, true, true, true, true, true, true, true, true, true, true, false, true, true, false, true, false, false, false, false, false, false, false, false, false, false, false, false, false, false, false, false, false, false, false, false, false, false, false, false, false, false, false] rfl rfl (take_ofW HT_.out HW_.out (by kernel_rfl)) (fun _ _ _ h => h) (Or.inl ⟨by rfl, ?_⟩) hHeld ?_ ?_
                            rotate_left
                            · rintro w' ⟨s0, s1, s2, s3, s4, s5, s6, s7, s8, s9, s10, s11, s12, s13, s14, s15, s16, s17, s18, s19, s20, s21, s22, s23, s24, s25, s26, s27, s28, s29, s30, s31⟩
                              go_simp
                              with_reducible rfl
                            rotate_left
                            · simp only [Act.put, List.setIfInBounds_toArray, List.set_cons_zero, List.set_cons_succ, i64_w, i32_w]
                              rfl
                            refine take_ (i := 26) (N := some 83) (v := ?_) (a' := ?_) #[true, true, true, true, true, true, true, true, true, true, true, true, true, true, true, true, true, true, true, true, true, true, true, false, true, true, true, true, false, false, false, false, false, false, false, false, false, false, false, false, false, false, false, false, false, false, false, false, false, false, false, false, false, false, false] rfl rfl (take_ofW HT_.out HW_.out (by kernel_rfl)) (fun _ _ _ h => h) (Or.inl ⟨by rfl, ?_⟩) hHeld ?_ ?_
                            rotate_left
                            · rintro w' ⟨s0, s1, s2, s3, s4, s5, s6, s7, s8, s9, s10, s11, s12, s13, s14, s15, s16, s17, s18, s19, s20, s21, s22, s23, s24, s25, s26, s27, s28, s29, s30, s31⟩
                              go_simp
                              with_reducible rfl
                            rotate_left
                            · simp only [Act.put, List.setIfInBounds_toArray, List.set_cons_zero, List.set_cons_succ, i64_w, i32_w]
                              rfl
                            refine one_ (i := 23) (N := some 80) #[true, true, true, true, true, true, true, true, true, true, true, true, true, true, true, true, true, true, true, true, true, true, true, true, true, true, true, true, false, false, false, false, false, false, false, false, false, false, false, false, false, false, false, false, false, false, false, false, false, false, false, false, false, false, false] rfl rfl (one_of HT_.out (by kernel_rfl)) (by decide) (fun K hK => ?_)
                            refine goes_ Tryd.func17 (by kernel_rfl) rfl #[.slice Ao22 t476.length co22, .slice Ao69 y507.length co69] (by rfl) rfl rfl (by (try simp only [List.map_toArray, List.map_cons, List.map_nil]); first | done | rfl | (simp only [List.length_drop, List.length_take]; rfl)) ?_
                            with_reducible refine (lockageref05_Drop.calls kj11 _ _ t476 _ _ y507 t513 _ ?side1 ?side2 ?side3 ?side4 A58.out).mono ?_
                            (case side1 => repeat (first | exact (Kd.R_reads' HO_481005.out).2.2 | (with_reducible refine Kd.C_alloc ?_ _) | (with_reducible refine Kd.C_drewN ?_ _) | (with_reducible refine Kd.C_drew ?_)))
                            (case side2 => exact (Kd.R_reads' HO_481005.out).2.1)
                            (case side3 => repeat (first | exact (Kd.R_reads' HO509.out).2.2 | (with_reducible refine Kd.C_alloc ?_ _) | (with_reducible refine Kd.C_drewN ?_ _) | (with_reducible refine Kd.C_drew ?_)))
                            (case side4 => exact (Kd.R_reads' HO509.out).2.1)
                            rintro e w70 ⟨v514, rfl, ho0, hb⟩
                            have HS28_ := (hb.cell (World.block_lt_of_cell? _ _ (hHeld.2.2.2.2.2.2.2.2.2.2.2.2.2.2.2.2.2.2.2.2.2.2.2.2.2.2.2.2.1))).trans (hHeld.2.2.2.2.2.2.2.2.2.2.2.2.2.2.2.2.2.2.2.2.2.2.2.2.2.2.2.2.1)
                            have HS29_ := (hb.cell (World.block_lt_of_cell? _ _ (hHeld.2.2.2.2.2.2.2.2.2.2.2.2.2.2.2.2.2.2.2.2.2.2.2.2.2.2.2.2.2.1))).trans (hHeld.2.2.2.2.2.2.2.2.2.2.2.2.2.2.2.2.2.2.2.2.2.2.2.2.2.2.2.2.2.1)
                            have HS30_ := (hb.cell (World.block_lt_of_cell? _ _ (hHeld.2.2.2.2.2.2.2.2.2.2.2.2.2.2.2.2.2.2.2.2.2.2.2.2.2.2.2.2.2.2.1))).trans (hHeld.2.2.2.2.2.2.2.2.2.2.2.2.2.2.2.2.2.2.2.2.2.2.2.2.2.2.2.2.2.2.1)
                            have HS31_ := (hb.cell (World.block_lt_of_cell? _ _ (hHeld.2.2.2.2.2.2.2.2.2.2.2.2.2.2.2.2.2.2.2.2.2.2.2.2.2.2.2.2.2.2.2))).trans (hHeld.2.2.2.2.2.2.2.2.2.2.2.2.2.2.2.2.2.2.2.2.2.2.2.2.2.2.2.2.2.2.2)
                            refine ⟨_, rfl, ?_⟩
                            have n0_ := Aside0.mk (Kd.R_below (by (with_reducible repeat (first | apply Kd.R_alloc | apply Kd.R_drewN | apply Kd.R_drew)); exact HO_11.out) hb)
                            have n1_ := Aside0.mk (Kd.R_below (by (with_reducible repeat (first | apply Kd.R_alloc | apply Kd.R_drewN | apply Kd.R_drew)); exact HO_12.out) hb)
                            have n2_ := Aside0.mk (Kd.R_elder' (by (with_reducible repeat (first | apply Kd.R_alloc | apply Kd.R_drewN | apply Kd.R_drew)); exact HO_471005.out) (Kd.R_base ho0) hb)
                            have n3_ := Aside0.mk (Kd.R_elder' (by (with_reducible repeat (first | apply Kd.R_alloc | apply Kd.R_drewN | apply Kd.R_drew)); exact HO_481005.out) (Kd.R_base ho0) hb)
                            have n4_ := Aside0.mk (Kd.R_elder' (by (with_reducible repeat (first | apply Kd.R_alloc | apply Kd.R_drewN | apply Kd.R_drew)); exact HO_491005.out) (Kd.R_base ho0) hb)
                            have n5_ := Aside0.mk (Kd.R_elder' (by (with_reducible repeat (first | apply Kd.R_alloc | apply Kd.R_drewN | apply Kd.R_drew)); exact HO_507005.out) (Kd.R_base ho0) hb)
                            have n6_ := Aside0.mk (Kd.R_below (by (with_reducible repeat (first | apply Kd.R_alloc | apply Kd.R_drewN | apply Kd.R_drew)); exact HO509.out) hb)
                            have n7_ := Aside0.mk (Kd.R_lower (Kd.R_new' (Kd.R_new' (Kd.R_new' (Kd.R_new' ho0 (Kd.R_lt (by (with_reducible repeat (first | apply Kd.R_alloc | apply Kd.R_drewN | apply Kd.R_drew)); exact HO_471005.out))) (Kd.R_lt (by (with_reducible repeat (first | apply Kd.R_alloc | apply Kd.R_drewN | apply Kd.R_drew)); exact HO_481005.out))) (Kd.R_lt (by (with_reducible repeat (first | apply Kd.R_alloc | apply Kd.R_drewN | apply Kd.R_drew)); exact HO_491005.out))) (Kd.R_lt (by (with_reducible repeat (first | apply Kd.R_alloc | apply Kd.R_drewN | apply Kd.R_drew)); exact HO_507005.out))) (below_size (by repeat (first | (with_reducible first | exact HB.out | apply below_alloc | apply pw_below_drewN | apply below_drew1 | refine below_set ?_ GE470.out | refine below_set ?_ GE480.out | refine below_set ?_ GE490.out | refine below_set ?_ GE506.out) | exact HB.out))))
                            have n8_ := Aside0.mk (blk_below (g := gb470) (o := .cells #[.string t462, .string t463, .int .i64 t464, .string t465, .int .i64 t466, .slice Ao15 t467.length co15, .string (⟨#[120]⟩ : ByteArray)] 26 (0, 0)) (by (with_reducible repeat (first | refine blk_drewN ?_ _ | refine blk_drew ?_ | refine blk_alloc ?_ _)); exact BK470.out) hb)
                            have n9_ := Aside0.mk (blk_below (g := gb480) (o := .cells #[.string t471, .string t472, .int .i64 t473, .string t474, .int .i64 t475, .slice Ao22 t476.length co22, .string t479] 26 (0, 0)) (by (with_reducible repeat (first | refine blk_drewN ?_ _ | refine blk_drew ?_ | refine blk_alloc ?_ _)); exact BK480.out) hb)
                            have n10_ := Aside0.mk (blk_below (g := gb490) (o := .cells #[.string t481, .string t482, .int .i64 t483, .string t484, .int .i64 t485, .slice Ao28 t486.length co28, .string t489] 26 (0, 0)) (by (with_reducible repeat (first | refine blk_drewN ?_ _ | refine blk_drew ?_ | refine blk_alloc ?_ _)); exact BK490.out) hb)
                            have n11_ := Aside0.mk (blk_below (g := gb506) (o := .cells #[.string t497, .string t498, .int .i64 t499, .string t500, .int .i64 t501, .slice (some ad512) t502.length co39, .string t505] 26 (0, 0)) (by (with_reducible repeat (first | refine blk_drewN ?_ _ | refine blk_drew ?_ | refine blk_alloc ?_ _)); exact BK506.out) hb)
                            have n12_ := Aside0.mk (below_step (by repeat (first | (with_reducible first | exact HB.out | apply below_alloc | apply pw_below_drewN | apply below_drew1 | refine below_set ?_ GE470.out | refine below_set ?_ GE480.out | refine below_set ?_ GE490.out | refine below_set ?_ GE506.out) | exact HB.out)) hb)
                            clear HO_11
                            clear HO_12
                            clear HO_471005
                            clear HO_481005
                            clear HO_491005
                            clear HO_507005
                            clear HO509
                            clear BK470
                            clear BK480
                            clear BK490
                            clear BK506
                            clear HB
                            have HO_11 := n0_
                            have HO_12 := n1_
                            have HO_471005 := n2_
                            have HO_481005 := n3_
                            have HO_491005 := n4_
                            have HO_507005 := n5_
                            have HO509 := n6_
                            have HO515 := n7_
                            have BK470 := n8_
                            have BK480 := n9_
                            have BK490 := n10_
                            have BK506 := n11_
                            have HB := n12_
                            clear n0_ n1_ n2_ n3_ n4_ n5_ n6_ n7_ n8_ n9_ n10_ n11_ n12_
                            (try clear hb)
                            (try clear hb2)
                            (try clear hk)
                            (try clear hi)
                            (try clear ho0)
                            refine hK.out _ _ ⟨(blk_cell BK506.out 0).trans rfl, (blk_cell BK506.out 1).trans rfl, (blk_cell BK506.out 2).trans rfl, (blk_cell BK506.out 3).trans rfl, (blk_cell BK506.out 4).trans rfl, (blk_cell BK506.out 5).trans rfl, (blk_cell BK506.out 6).trans rfl, (blk_cell BK480.out 0).trans rfl, (blk_cell BK480.out 1).trans rfl, (blk_cell BK480.out 2).trans rfl, (blk_cell BK480.out 3).trans rfl, (blk_cell BK480.out 4).trans rfl, (blk_cell BK480.out 5).trans rfl, (blk_cell BK480.out 6).trans rfl, (blk_cell BK490.out 0).trans rfl, (blk_cell BK490.out 1).trans rfl, (blk_cell BK490.out 2).trans rfl, (blk_cell BK490.out 3).trans rfl, (blk_cell BK490.out 4).trans rfl, (blk_cell BK490.out 5).trans rfl, (blk_cell BK490.out 6).trans rfl, (blk_cell BK470.out 0).trans rfl, (blk_cell BK470.out 1).trans rfl, (blk_cell BK470.out 2).trans rfl, (blk_cell BK470.out 3).trans rfl, (blk_cell BK470.out 4).trans rfl, (blk_cell BK470.out 5).trans rfl, (blk_cell BK470.out 6).trans rfl, HS28_, HS29_, HS30_, HS31_⟩ (fun hHeld => ?_)
                            clear hK K
                            refine norm_ (a' := ?_) ?_ ?_
                            rotate_left
                            · show Act.put _ (some 80) _ = _
                              simp only [Act.put, List.setIfInBounds_toArray, List.set_cons_zero, List.set_cons_succ, i64_w, i32_w]
                              rfl
                            refine one_ (i := 28) (N := some 85) #[true, true, true, true, true, true, true, true, true, true, true, true, true, true, true, true, true, true, true, true, true, true, true, true, true, true, true, true, true, false, false, false, false, false, false, false, false, false, false, false, false, false, false, false, false, false, false, false, false, false, false, false, false, false, false] rfl rfl (one_of HT_.out (by kernel_rfl)) (by decide) (fun K hK => ?_)
                            refine goes_ Tryd.func17 (by kernel_rfl) rfl #[.slice Ao28 t486.length co28, .slice Ao69 y507.length co69] (by rfl) rfl rfl (by (try simp only [List.map_toArray, List.map_cons, List.map_nil]); first | done | rfl | (simp only [List.length_drop, List.length_take]; rfl)) ?_
                            with_reducible refine (lockageref05_Drop.calls kj11 _ _ t486 _ _ y507 t516 _ ?side1 ?side2 ?side3 ?side4 A59.out).mono ?_
                            (case side1 => repeat (first | exact (Kd.R_reads' HO_491005.out).2.2 | (with_reducible refine Kd.C_alloc ?_ _) | (with_reducible refine Kd.C_drewN ?_ _) | (with_reducible refine Kd.C_drew ?_)))
                            (case side2 => exact (Kd.R_reads' HO_491005.out).2.1)
                            (case side3 => repeat (first | exact (Kd.R_reads' HO509.out).2.2 | (with_reducible refine Kd.C_alloc ?_ _) | (with_reducible refine Kd.C_drewN ?_ _) | (with_reducible refine Kd.C_drew ?_)))
                            (case side4 => exact (Kd.R_reads' HO509.out).2.1)
                            rintro e w71 ⟨v517, rfl, ho0, hb⟩
                            have HS28_ := (hb.cell (World.block_lt_of_cell? _ _ (hHeld.2.2.2.2.2.2.2.2.2.2.2.2.2.2.2.2.2.2.2.2.2.2.2.2.2.2.2.2.1))).trans (hHeld.2.2.2.2.2.2.2.2.2.2.2.2.2.2.2.2.2.2.2.2.2.2.2.2.2.2.2.2.1)
                            have HS29_ := (hb.cell (World.block_lt_of_cell? _ _ (hHeld.2.2.2.2.2.2.2.2.2.2.2.2.2.2.2.2.2.2.2.2.2.2.2.2.2.2.2.2.2.1))).trans (hHeld.2.2.2.2.2.2.2.2.2.2.2.2.2.2.2.2.2.2.2.2.2.2.2.2.2.2.2.2.2.1)
                            have HS30_ := (hb.cell (World.block_lt_of_cell? _ _ (hHeld.2.2.2.2.2.2.2.2.2.2.2.2.2.2.2.2.2.2.2.2.2.2.2.2.2.2.2.2.2.2.1))).trans (hHeld.2.2.2.2.2.2.2.2.2.2.2.2.2.2.2.2.2.2.2.2.2.2.2.2.2.2.2.2.2.2.1)
                            have HS31_ := (hb.cell (World.block_lt_of_cell? _ _ (hHeld.2.2.2.2.2.2.2.2.2.2.2.2.2.2.2.2.2.2.2.2.2.2.2.2.2.2.2.2.2.2.2))).trans (hHeld.2.2.2.2.2.2.2.2.2.2.2.2.2.2.2.2.2.2.2.2.2.2.2.2.2.2.2.2.2.2.2)
                            refine ⟨_, rfl, ?_⟩
                            have n0_ := Aside0.mk (Kd.R_below (by (with_reducible repeat (first | apply Kd.R_alloc | apply Kd.R_drewN | apply Kd.R_drew)); exact HO_11.out) hb)
                            have n1_ := Aside0.mk (Kd.R_below (by (with_reducible repeat (first | apply Kd.R_alloc | apply Kd.R_drewN | apply Kd.R_drew)); exact HO_12.out) hb)
                            have n2_ := Aside0.mk (Kd.R_elder' (by (with_reducible repeat (first | apply Kd.R_alloc | apply Kd.R_drewN | apply Kd.R_drew)); exact HO_471005.out) (Kd.R_base ho0) hb)
                            have n3_ := Aside0.mk (Kd.R_elder' (by (with_reducible repeat (first | apply Kd.R_alloc | apply Kd.R_drewN | apply Kd.R_drew)); exact HO_481005.out) (Kd.R_base ho0) hb)
                            have n4_ := Aside0.mk (Kd.R_elder' (by (with_reducible repeat (first | apply Kd.R_alloc | apply Kd.R_drewN | apply Kd.R_drew)); exact HO_491005.out) (Kd.R_base ho0) hb)
                            have n5_ := Aside0.mk (Kd.R_elder' (by (with_reducible repeat (first | apply Kd.R_alloc | apply Kd.R_drewN | apply Kd.R_drew)); exact HO_507005.out) (Kd.R_base ho0) hb)
                            have n6_ := Aside0.mk (Kd.R_below (by (with_reducible repeat (first | apply Kd.R_alloc | apply Kd.R_drewN | apply Kd.R_drew)); exact HO509.out) hb)
                            have n7_ := Aside0.mk (Kd.R_elder' (by (with_reducible repeat (first | apply Kd.R_alloc | apply Kd.R_drewN | apply Kd.R_drew)); exact HO515.out) (Kd.R_base ho0) hb)
                            have n8_ := Aside0.mk (Kd.R_lower (Kd.R_new' (Kd.R_new' (Kd.R_new' (Kd.R_new' (Kd.R_new' ho0 (Kd.R_lt (by (with_reducible repeat (first | apply Kd.R_alloc | apply Kd.R_drewN | apply Kd.R_drew)); exact HO_471005.out))) (Kd.R_lt (by (with_reducible repeat (first | apply Kd.R_alloc | apply Kd.R_drewN | apply Kd.R_drew)); exact HO_481005.out))) (Kd.R_lt (by (with_reducible repeat (first | apply Kd.R_alloc | apply Kd.R_drewN | apply Kd.R_drew)); exact HO_491005.out))) (Kd.R_lt (by (with_reducible repeat (first | apply Kd.R_alloc | apply Kd.R_drewN | apply Kd.R_drew)); exact HO_507005.out))) (Kd.R_lt (by (with_reducible repeat (first | apply Kd.R_alloc | apply Kd.R_drewN | apply Kd.R_drew)); exact HO515.out))) (below_size (by repeat (first | (with_reducible first | exact HB.out | apply below_alloc | apply pw_below_drewN | apply below_drew1 | refine below_set ?_ GE470.out | refine below_set ?_ GE480.out | refine below_set ?_ GE490.out | refine below_set ?_ GE506.out) | exact HB.out))))
                            have n9_ := Aside0.mk (blk_below (g := gb470) (o := .cells #[.string t462, .string t463, .int .i64 t464, .string t465, .int .i64 t466, .slice Ao15 t467.length co15, .string (⟨#[120]⟩ : ByteArray)] 26 (0, 0)) (by (with_reducible repeat (first | refine blk_drewN ?_ _ | refine blk_drew ?_ | refine blk_alloc ?_ _)); exact BK470.out) hb)
                            have n10_ := Aside0.mk (blk_below (g := gb480) (o := .cells #[.string t471, .string t472, .int .i64 t473, .string t474, .int .i64 t475, .slice Ao22 t476.length co22, .string t479] 26 (0, 0)) (by (with_reducible repeat (first | refine blk_drewN ?_ _ | refine blk_drew ?_ | refine blk_alloc ?_ _)); exact BK480.out) hb)
                            have n11_ := Aside0.mk (blk_below (g := gb490) (o := .cells #[.string t481, .string t482, .int .i64 t483, .string t484, .int .i64 t485, .slice Ao28 t486.length co28, .string t489] 26 (0, 0)) (by (with_reducible repeat (first | refine blk_drewN ?_ _ | refine blk_drew ?_ | refine blk_alloc ?_ _)); exact BK490.out) hb)
                            have n12_ := Aside0.mk (blk_below (g := gb506) (o := .cells #[.string t497, .string t498, .int .i64 t499, .string t500, .int .i64 t501, .slice (some ad512) t502.length co39, .string t505] 26 (0, 0)) (by (with_reducible repeat (first | refine blk_drewN ?_ _ | refine blk_drew ?_ | refine blk_alloc ?_ _)); exact BK506.out) hb)
                            have n13_ := Aside0.mk (below_step (by repeat (first | (with_reducible first | exact HB.out | apply below_alloc | apply pw_below_drewN | apply below_drew1 | refine below_set ?_ GE470.out | refine below_set ?_ GE480.out | refine below_set ?_ GE490.out | refine below_set ?_ GE506.out) | exact HB.out)) hb)
                            clear HO_11
                            clear HO_12
                            clear HO_471005
                            clear HO_481005
                            clear HO_491005
                            clear HO_507005
                            clear HO509
                            clear HO515
                            clear BK470
                            clear BK480
                            clear BK490
                            clear BK506
                            clear HB
                            have HO_11 := n0_
                            have HO_12 := n1_
                            have HO_471005 := n2_
                            have HO_481005 := n3_
                            have HO_491005 := n4_
                            have HO_507005 := n5_
                            have HO509 := n6_
                            have HO515 := n7_
                            have HO518 := n8_
                            have BK470 := n9_
                            have BK480 := n10_
                            have BK490 := n11_
                            have BK506 := n12_
                            have HB := n13_
                            clear n0_ n1_ n2_ n3_ n4_ n5_ n6_ n7_ n8_ n9_ n10_ n11_ n12_ n13_
                            (try clear hb)
                            (try clear hb2)
                            (try clear hk)
                            (try clear hi)
                            (try clear ho0)
                            obtain ⟨Ao72, co72, eo72⟩ := Kd.R_slice HO515.out
                            (first | subst eo72 | (injection eo72 with f1_ f2_ f3_; have f4_ := f1_.symm; have f5_ := f3_.symm; clear f1_ f2_ f3_; subst f4_; subst f5_))
                            obtain ⟨Ao73, co73, eo73⟩ := Kd.R_slice HO518.out
                            (first | subst eo73 | (injection eo73 with f1_ f2_ f3_; have f4_ := f1_.symm; have f5_ := f3_.symm; clear f1_ f2_ f3_; subst f4_; subst f5_))
                            refine hK.out _ _ ⟨(blk_cell BK506.out 0).trans rfl, (blk_cell BK506.out 1).trans rfl, (blk_cell BK506.out 2).trans rfl, (blk_cell BK506.out 3).trans rfl, (blk_cell BK506.out 4).trans rfl, (blk_cell BK506.out 5).trans rfl, (blk_cell BK506.out 6).trans rfl, (blk_cell BK480.out 0).trans rfl, (blk_cell BK480.out 1).trans rfl, (blk_cell BK480.out 2).trans rfl, (blk_cell BK480.out 3).trans rfl, (blk_cell BK480.out 4).trans rfl, (blk_cell BK480.out 5).trans rfl, (blk_cell BK480.out 6).trans rfl, (blk_cell BK490.out 0).trans rfl, (blk_cell BK490.out 1).trans rfl, (blk_cell BK490.out 2).trans rfl, (blk_cell BK490.out 3).trans rfl, (blk_cell BK490.out 4).trans rfl, (blk_cell BK490.out 5).trans rfl, (blk_cell BK490.out 6).trans rfl, (blk_cell BK470.out 0).trans rfl, (blk_cell BK470.out 1).trans rfl, (blk_cell BK470.out 2).trans rfl, (blk_cell BK470.out 3).trans rfl, (blk_cell BK470.out 4).trans rfl, (blk_cell BK470.out 5).trans rfl, (blk_cell BK470.out 6).trans rfl, HS28_, HS29_, HS30_, HS31_⟩ (fun hHeld => ?_)
                            clear hK K
                            refine norm_ (a' := ?_) ?_ ?_
                            rotate_left
                            · show Act.put _ (some 85) _ = _
                              simp only [Act.put, List.setIfInBounds_toArray, List.set_cons_zero, List.set_cons_succ, i64_w, i32_w]
                              rfl
                            refine one_ (i := 29) (N := some 86) #[true, true, true, true, true, true, true, true, true, true, true, true, true, true, true, true, true, true, true, true, true, true, true, true, true, true, true, true, true, true, false, false, false, false, false, false, false, false, false, false, false, false, false, false, false, false, false, false, false, false, false, false, false, false, false] rfl rfl (one_of HT_.out (by kernel_rfl)) (by decide) (fun K hK => ?_)
                            refine goes_ Tryd.func16 (by kernel_rfl) rfl #[.slice Ao72 t513.length co72, .slice Ao73 t516.length co73] (by rfl) rfl rfl (by (try simp only [List.map_toArray, List.map_cons, List.map_nil]); first | done | rfl | (simp only [List.length_drop, List.length_take]; rfl)) ?_
                            with_reducible refine (lockageref05_Same.calls kj11 _ _ t513 _ _ t516 true _ ?side1 ?side2 ?side3 ?side4 A60.out).mono ?_
                            (case side1 => repeat (first | exact (Kd.R_reads' HO515.out).2.2 | (with_reducible refine Kd.C_alloc ?_ _) | (with_reducible refine Kd.C_drewN ?_ _) | (with_reducible refine Kd.C_drew ?_)))
                            (case side2 => exact (Kd.R_reads' HO515.out).2.1)
                            (case side3 => repeat (first | exact (Kd.R_reads' HO518.out).2.2 | (with_reducible refine Kd.C_alloc ?_ _) | (with_reducible refine Kd.C_drewN ?_ _) | (with_reducible refine Kd.C_drew ?_)))
                            (case side4 => exact (Kd.R_reads' HO518.out).2.1)
                            rintro e w' ⟨rfl, ⟨nd, rfl⟩⟩
                            refine ⟨_, rfl, ?_⟩
                            refine hK.out _ _ ⟨(blk_cell BK506.out 0).trans rfl, (blk_cell BK506.out 1).trans rfl, (blk_cell BK506.out 2).trans rfl, (blk_cell BK506.out 3).trans rfl, (blk_cell BK506.out 4).trans rfl, (blk_cell BK506.out 5).trans rfl, (blk_cell BK506.out 6).trans rfl, (blk_cell BK480.out 0).trans rfl, (blk_cell BK480.out 1).trans rfl, (blk_cell BK480.out 2).trans rfl, (blk_cell BK480.out 3).trans rfl, (blk_cell BK480.out 4).trans rfl, (blk_cell BK480.out 5).trans rfl, (blk_cell BK480.out 6).trans rfl, (blk_cell BK490.out 0).trans rfl, (blk_cell BK490.out 1).trans rfl, (blk_cell BK490.out 2).trans rfl, (blk_cell BK490.out 3).trans rfl, (blk_cell BK490.out 4).trans rfl, (blk_cell BK490.out 5).trans rfl, (blk_cell BK490.out 6).trans rfl, (blk_cell BK470.out 0).trans rfl, (blk_cell BK470.out 1).trans rfl, (blk_cell BK470.out 2).trans rfl, (blk_cell BK470.out 3).trans rfl, (blk_cell BK470.out 4).trans rfl, (blk_cell BK470.out 5).trans rfl, (blk_cell BK470.out 6).trans rfl, hHeld.2.2.2.2.2.2.2.2.2.2.2.2.2.2.2.2.2.2.2.2.2.2.2.2.2.2.2.2.1, hHeld.2.2.2.2.2.2.2.2.2.2.2.2.2.2.2.2.2.2.2.2.2.2.2.2.2.2.2.2.2.1, hHeld.2.2.2.2.2.2.2.2.2.2.2.2.2.2.2.2.2.2.2.2.2.2.2.2.2.2.2.2.2.2.1, hHeld.2.2.2.2.2.2.2.2.2.2.2.2.2.2.2.2.2.2.2.2.2.2.2.2.2.2.2.2.2.2.2⟩ (fun hHeld => ?_)
                            clear hK K
                            refine norm_ (a' := ?_) ?_ ?_
                            rotate_left
                            · show Act.put _ (some 86) _ = _
                              simp only [Act.put, List.setIfInBounds_toArray, List.set_cons_zero, List.set_cons_succ, i64_w, i32_w]
                              rfl
                            refine pure_ (i := 30) (N := some 87) (v := ?_) (a' := ?_) #[true, true, true, true, true, true, true, true, true, true, true, true, true, true, true, true, true, true, true, true, true, true, true, true, true, true, true, true, true, true, true, false, false, false, false, false, false, false, false, false, false, false, false, false, false, false, false, false, false, false, false, false, false, false, false] rfl rfl (any_of HT_.out (by kernel_rfl)) (fun _ _ _ h => h) (Or.inl ⟨by rfl, ?_⟩) ?_ ?_
                            rotate_left
                            · intro w'
                              go_simp
                              with_reducible rfl
                            rotate_left
                            · simp only [Act.put, List.setIfInBounds_toArray, List.set_cons_zero, List.set_cons_succ, i64_w, i32_w]
                              rfl
                            refine pure_ (i := 31) (N := some 88) (v := ?_) (a' := ?_) #[true, true, true, true, true, true, true, true, true, true, true, true, true, true, true, true, true, true, true, true, true, true, true, true, true, true, true, true, true, true, true, true, false, false, false, false, false, false, false, false, false, false, false, false, false, false, false, false, false, false, false, false, false, false, false] rfl rfl (any_of HT_.out (by kernel_rfl)) (fun _ _ _ h => h) (Or.inl ⟨by rfl, ?_⟩) ?_ ?_
                            rotate_left
                            · intro w'
                              go_simp
                              with_reducible rfl
                            rotate_left
                            · simp only [Act.put, List.setIfInBounds_toArray, List.set_cons_zero, List.set_cons_succ, i64_w, i32_w]
                              rfl
                            refine pure_ (i := 32) (N := some 89) (v := ?_) (a' := ?_) #[true, true, true, true, true, true, true, true, true, true, true, true, true, true, true, true, true, true, true, true, true, true, true, true, true, true, true, true, true, true, true, true, true, false, false, false, false, false, false, false, false, false, false, false, false, false, false, false, false, false, false, false, false, false, false] rfl rfl (any_of HT_.out (by kernel_rfl)) (fun _ _ _ h => h) (Or.inl ⟨by rfl, ?_⟩) ?_ ?_
                            rotate_left
                            · intro w'
                              go_simp
                              with_reducible rfl
                            rotate_left
                            · simp only [Act.put, List.setIfInBounds_toArray, List.set_cons_zero, List.set_cons_succ, i64_w, i32_w]
                              rfl
                            refine take_ (i := 33) (N := some 90) (v := ?_) (a' := ?_) #[true, true, true, true, true, true, true, true, true, true, true, true, true, true, true, true, true, true, true, true, true, true, true, true, true, true, true, true, true, true, true, true, true, true, false, false, false, false, false, false, false, false, false, false, false, false, false, false, false, false, false, false, false, false, false] rfl rfl (take_ofW HT_.out HW_.out (by kernel_rfl)) (fun _ _ _ h => h) (Or.inl ⟨by rfl, ?_⟩) hHeld ?_ ?_
                            rotate_left
                            · rintro w' ⟨s0, s1, s2, s3, s4, s5, s6, s7, s8, s9, s10, s11, s12, s13, s14, s15, s16, s17, s18, s19, s20, s21, s22, s23, s24, s25, s26, s27, s28, s29, s30, s31⟩
                              go_simp
                              with_reducible rfl
                            rotate_left
                            · simp only [Act.put, List.setIfInBounds_toArray, List.set_cons_zero, List.set_cons_succ, i64_w, i32_w]
                              rfl
                            refine pure_ (i := 34) (N := some 91) (v := ?_) (a' := ?_) #[true, true, true, true, true, true, true, true, true, true, true, true, true, true, true, true, true, true, true, true, true, true, true, true, true, true, true, true, true, true, true, true, true, true, true, false, false, false, false, false, false, false, false, false, false, false, false, false, false, false, false, false, false, false, false] rfl rfl (any_of HT_.out (by kernel_rfl)) (fun _ _ _ h => h) (Or.inl ⟨by rfl, ?_⟩) ?_ ?_
                            rotate_left
                            · intro w'
                              go_simp
                              with_reducible rfl
                            rotate_left
                            · simp only [Act.put, List.setIfInBounds_toArray, List.set_cons_zero, List.set_cons_succ, i64_w, i32_w]
                              rfl
                            refine pure_ (i := 35) (N := some 92) (v := ?_) (a' := ?_) #[true, true, true, true, true, true, true, true, true, true, true, true, true, true, true, true, true, true, true, true, true, true, true, true, true, true, true, true, true, true, true, true, true, true, true, true, false, false, false, false, false, false, false, false, false, false, false, false, false, false, false, false, false, false, false] rfl rfl (any_of HT_.out (by kernel_rfl)) (fun _ _ _ h => h) (Or.inl ⟨by rfl, ?_⟩) ?_ ?_
                            rotate_left
                            · intro w'
                              go_simp
                              with_reducible rfl
                            rotate_left
                            · simp only [Act.put, List.setIfInBounds_toArray, List.set_cons_zero, List.set_cons_succ, i64_w, i32_w]
                              rfl
                            refine pure_ (i := 36) (N := some 93) (v := ?_) (a' := ?_) #[true, true, true, true, true, true, true, true, true, true, true, true, true, true, true, true, true, true, true, true, true, true, true, true, true, true, true, true, true, true, true, true, true, true, true, true, true, false, false, false, false, false, false, false, false, false, false, false, false, false, false, false, false, false, false] rfl rfl (any_of HT_.out (by kernel_rfl)) (fun _ _ _ h => h) (Or.inl ⟨by rfl, ?_⟩) ?_ ?_
                            rotate_left
                            · intro w'
                              go_simp
                              with_reducible rfl
                            rotate_left
                            · simp only [Act.put, List.setIfInBounds_toArray, List.set_cons_zero, List.set_cons_succ, i64_w, i32_w]
                              rfl
                            refine pure_ (i := 37) (N := some 94) (v := ?_) (a' := ?_) #[true, true, true, true, true, true, true, true, true, true, true, true, true, true, true, true, true, true, true, true, true, true, true, true, true, true, true, true, true, true, true, true, true, true, true, true, true, true, false, false, false, false, false, false, false, false, false, false, false, false, false, false, false, false, false] rfl rfl (any_of HT_.out (by kernel_rfl)) (fun _ _ _ h => h) (Or.inl ⟨by rfl, ?_⟩) ?_ ?_
                            rotate_left
                            · intro w'
                              go_simp
                              with_reducible rfl
                            rotate_left
                            · simp only [Act.put, List.setIfInBounds_toArray, List.set_cons_zero, List.set_cons_succ, i64_w, i32_w]
                              rfl
                            refine pure_ (i := 38) (N := some 95) (v := ?_) (a' := ?_) #[true, true, true, true, true, true, true, true, true, true, true, true, true, true, true, true, true, true, true, true, true, true, true, true, true, true, true, true, true, true, true, true, true, true, true, true, true, true, true, false, false, false, false, false, false, false, false, false, false, false, false, false, false, false, false] rfl rfl (any_of HT_.out (by kernel_rfl)) (fun _ _ _ h => h) (Or.inl ⟨by rfl, ?_⟩) ?_ ?_
                            rotate_left
                            · intro w'
                              go_simp
                              with_reducible rfl
                            rotate_left
                            · simp only [Act.put, List.setIfInBounds_toArray, List.set_cons_zero, List.set_cons_succ, i64_w, i32_w]
                              rfl
                            refine pure_ (i := 40) (N := some 97) (v := ?_) (a' := ?_) #[true, true, true, true, true, true, true, true, true, true, true, true, true, true, true, true, true, true, true, true, true, true, true, true, true, true, true, true, true, true, true, true, true, true, true, true, true, true, true, false, true, false, false, false, false, false, false, false, false, false, false, false, false, false, false] rfl rfl (any_of HT_.out (by kernel_rfl)) (fun _ _ _ h => h) (Or.inl ⟨by rfl, ?_⟩) ?_ ?_
                            rotate_left
                            · intro w'
                              go_simp
                              with_reducible rfl
                            rotate_left
                            · simp only [Act.put, List.setIfInBounds_toArray, List.set_cons_zero, List.set_cons_succ, i64_w, i32_w]
                              rfl
                            refine pure_ (i := 41) (N := some 98) (v := ?_) (a' := ?_) #[true, true, true, true, true, true, true, true, true, true, true, true, true, true, true, true, true, true, true, true, true, true, true, true, true, true, true, true, true, true, true, true, true, true, true, true, true, true, true, false, true, true, false, false, false, false, false, false, false, false, false, false, false, false, false] rfl rfl (any_of HT_.out (by kernel_rfl)) (fun _ _ _ h => h) (Or.inl ⟨by rfl, ?_⟩) ?_ ?_
                            rotate_left
                            · intro w'
                              go_simp
                              with_reducible rfl
                            rotate_left
                            · simp only [Act.put, List.setIfInBounds_toArray, List.set_cons_zero, List.set_cons_succ, i64_w, i32_w]
                              rfl
                            refine take_ (i := 39) (N := some 96) (v := ?_) (a' := ?_) #[true, true, true, true, true, true, true, true, true, true, true, true, true, true, true, true, true, true, true, true, true, true, true, true, true, true, true, true, true, true, true, true, true, true, true, true, true, true, true, true, true, true, false, false, false, false, false, false, false, false, false, false, false, false, false] rfl rfl (take_ofW HT_.out HW_.out (by kernel_rfl)) (fun _ _ _ h => h) (Or.inl ⟨by rfl, ?_⟩) hHeld ?_ ?_
                            rotate_left
                            · rintro w' ⟨s0, s1, s2, s3, s4, s5, s6, s7, s8, s9, s10, s11, s12, s13, s14, s15, s16, s17, s18, s19, s20, s21, s22, s23, s24, s25, s26, s27, s28, s29, s30, s31⟩
                              go_simp
                              with_reducible rfl
                            rotate_left
                            · simp only [Act.put, List.setIfInBounds_toArray, List.set_cons_zero, List.set_cons_succ, i64_w, i32_w]
                              rfl
                            refine take_ (i := 42) (N := some 99) (v := ?_) (a' := ?_) #[true, true, true, true, true, true, true, true, true, true, true, true, true, true, true, true, true, true, true, true, true, true, true, true, true, true, true, true, true, true, true, true, true, true, true, true, true, true, true, true, true, true, true, false, false, false, false, false, false, false, false, false, false, false, false] rfl rfl (take_ofW HT_.out HW_.out (by kernel_rfl)) (fun _ _ _ h => h) (Or.inl ⟨by rfl, ?_⟩) hHeld ?_ ?_
                            rotate_left
                            · rintro w' ⟨s0, s1, s2, s3, s4, s5, s6, s7, s8, s9, s10, s11, s12, s13, s14, s15, s16, s17, s18, s19, s20, s21, s22, s23, s24, s25, s26, s27, s28, s29, s30, s31⟩
                              go_simp
                              with_reducible rfl
                            rotate_left
                            · simp only [Act.put, List.setIfInBounds_toArray, List.set_cons_zero, List.set_cons_succ, i64_w, i32_w]
                              rfl
                            refine pure_ (i := 43) (N := some 100) (v := ?_) (a' := ?_) #[true, true, true, true, true, true, true, true, true, true, true, true, true, true, true, true, true, true, true, true, true, true, true, true, true, true, true, true, true, true, true, true, true, true, true, true, true, true, true, true, true, true, true, true, false, false, false, false, false, false, false, false, false, false, false] rfl rfl (any_of HT_.out (by kernel_rfl)) (fun _ _ _ h => h) (Or.inl ⟨by rfl, ?_⟩) ?_ ?_
                            rotate_left
                            · intro w'
                              go_simp
                              with_reducible rfl
                            rotate_left
                            · simp only [Act.put, List.setIfInBounds_toArray, List.set_cons_zero, List.set_cons_succ, i64_w, i32_w]
                              rfl
                            refine pure_ (i := 44) (N := some 101) (v := ?_) (a' := ?_) #[true, true, true, true, true, true, true, true, true, true, true, true, true, true, true, true, true, true, true, true, true, true, true, true, true, true, true, true, true, true, true, true, true, true, true, true, true, true, true, true, true, true, true, true, true, false, false, false, false, false, false, false, false, false, false] rfl rfl (any_of HT_.out (by kernel_rfl)) (fun _ _ _ h => h) (Or.inl ⟨by rfl, ?_⟩) ?_ ?_
                            rotate_left
                            · intro w'
                              go_simp
                              with_reducible rfl
                            rotate_left
                            · simp only [Act.put, List.setIfInBounds_toArray, List.set_cons_zero, List.set_cons_succ, i64_w, i32_w]
                              rfl
                            refine pure_ (i := 45) (N := some 102) (v := ?_) (a' := ?_) #[true, true, true, true, true, true, true, true, true, true, true, true, true, true, true, true, true, true, true, true, true, true, true, true, true, true, true, true, true, true, true, true, true, true, true, true, true, true, true, true, true, true, true, true, true, true, false, false, false, false, false, false, false, false, false] rfl rfl (any_of HT_.out (by kernel_rfl)) (fun _ _ _ h => h) (Or.inl ⟨by rfl, ?_⟩) ?_ ?_
                            rotate_left
                            · intro w'
                              go_simp
                              with_reducible rfl
                            rotate_left
                            · simp only [Act.put, List.setIfInBounds_toArray, List.set_cons_zero, List.set_cons_succ, i64_w, i32_w]
                              rfl
                            refine pure_ (i := 46) (N := some 103) (v := ?_) (a' := ?_) #[true, true, true, true, true, true, true, true, true, true, true, true, true, true, true, true, true, true, true, true, true, true, true, true, true, true, true, true, true, true, true, true, true, true, true, true, true, true, true, true, true, true, true, true, true, true, true, false, false, false, false, false, false, false, false] rfl rfl (any_of HT_.out (by kernel_rfl)) (fun _ _ _ h => h) (Or.inl ⟨by rfl, ?_⟩) ?_ ?_
                            rotate_left
                            · intro w'
                              go_simp
                              with_reducible rfl
                            rotate_left
                            · simp only [Act.put, List.setIfInBounds_toArray, List.set_cons_zero, List.set_cons_succ, i64_w, i32_w]
                              rfl
                            refine pure_ (i := 47) (N := some 104) (v := ?_) (a' := ?_) #[true, true, true, true, true, true, true, true, true, true, true, true, true, true, true, true, true, true, true, true, true, true, true, true, true, true, true, true, true, true, true, true, true, true, true, true, true, true, true, true, true, true, true, true, true, true, true, true, false, false, false, false, false, false, false] rfl rfl (any_of HT_.out (by kernel_rfl)) (fun _ _ _ h => h) (Or.inl ⟨by rfl, ?_⟩) ?_ ?_
                            rotate_left
                            · intro w'
                              go_simp
                              with_reducible rfl
                            rotate_left
                            · simp only [Act.put, List.setIfInBounds_toArray, List.set_cons_zero, List.set_cons_succ, i64_w, i32_w]
                              rfl
                            refine pure_ (i := 49) (N := some 106) (v := ?_) (a' := ?_) #[true, true, true, true, true, true, true, true, true, true, true, true, true, true, true, true, true, true, true, true, true, true, true, true, true, true, true, true, true, true, true, true, true, true, true, true, true, true, true, true, true, true, true, true, true, true, true, true, false, true, false, false, false, false, false] rfl rfl (any_of HT_.out (by kernel_rfl)) (fun _ _ _ h => h) (Or.inl ⟨by rfl, ?_⟩) ?_ ?_
                            rotate_left
                            · intro w'
                              go_simp
                              with_reducible rfl
                            rotate_left
                            · simp only [Act.put, List.setIfInBounds_toArray, List.set_cons_zero, List.set_cons_succ, i64_w, i32_w]
                              rfl
                            refine pure_ (i := 50) (N := some 107) (v := ?_) (a' := ?_) #[true, true, true, true, true, true, true, true, true, true, true, true, true, true, true, true, true, true, true, true, true, true, true, true, true, true, true, true, true, true, true, true, true, true, true, true, true, true, true, true, true, true, true, true, true, true, true, true, false, true, true, false, false, false, false] rfl rfl (any_of HT_.out (by kernel_rfl)) (fun _ _ _ h => h) (Or.inl ⟨by rfl, ?_⟩) ?_ ?_
                            rotate_left
                            · intro w'
                              go_simp
                              with_reducible rfl
                            rotate_left
                            · simp only [Act.put, List.setIfInBounds_toArray, List.set_cons_zero, List.set_cons_succ, i64_w, i32_w]
                              rfl
                            refine take_ (i := 48) (N := some 105) (v := ?_) (a' := ?_) #[true, true, true, true, true, true, true, true, true, true, true, true, true, true, true, true, true, true, true, true, true, true, true, true, true, true, true, true, true, true, true, true, true, true, true, true, true, true, true, true, true, true, true, true, true, true, true, true, true, true, true, false, false, false, false] rfl rfl (take_ofW HT_.out HW_.out (by kernel_rfl)) (fun _ _ _ h => h) (Or.inl ⟨by rfl, ?_⟩) hHeld ?_ ?_
                            rotate_left
                            · rintro w' ⟨s0, s1, s2, s3, s4, s5, s6, s7, s8, s9, s10, s11, s12, s13, s14, s15, s16, s17, s18, s19, s20, s21, s22, s23, s24, s25, s26, s27, s28, s29, s30, s31⟩
                              go_simp
                              with_reducible rfl
                            rotate_left
                            · simp only [Act.put, List.setIfInBounds_toArray, List.set_cons_zero, List.set_cons_succ, i64_w, i32_w]
                              rfl
                            refine take_ (i := 51) (N := some 108) (v := ?_) (a' := ?_) #[true, true, true, true, true, true, true, true, true, true, true, true, true, true, true, true, true, true, true, true, true, true, true, true, true, true, true, true, true, true, true, true, true, true, true, true, true, true, true, true, true, true, true, true, true, true, true, true, true, true, true, true, false, false, false] rfl rfl (take_ofW HT_.out HW_.out (by kernel_rfl)) (fun _ _ _ h => h) (Or.inl ⟨by rfl, ?_⟩) hHeld ?_ ?_
                            rotate_left
                            · rintro w' ⟨s0, s1, s2, s3, s4, s5, s6, s7, s8, s9, s10, s11, s12, s13, s14, s15, s16, s17, s18, s19, s20, s21, s22, s23, s24, s25, s26, s27, s28, s29, s30, s31⟩
                              go_simp
                              with_reducible rfl
                            rotate_left
                            · simp only [Act.put, List.setIfInBounds_toArray, List.set_cons_zero, List.set_cons_succ, i64_w, i32_w]
                              rfl
                            refine pure_ (i := 52) (N := some 109) (v := ?_) (a' := ?_) #[true, true, true, true, true, true, true, true, true, true, true, true, true, true, true, true, true, true, true, true, true, true, true, true, true, true, true, true, true, true, true, true, true, true, true, true, true, true, true, true, true, true, true, true, true, true, true, true, true, true, true, true, true, false, false] rfl rfl (any_of HT_.out (by kernel_rfl)) (fun _ _ _ h => h) (Or.inl ⟨by rfl, ?_⟩) ?_ ?_
                            rotate_left
                            · intro w'
                              go_simp
                              with_reducible rfl
                            rotate_left
                            · simp only [Act.put, List.setIfInBounds_toArray, List.set_cons_zero, List.set_cons_succ, i64_w, i32_w]
                              rfl
                            refine pure_ (i := 53) (N := some 110) (v := ?_) (a' := ?_) #[true, true, true, true, true, true, true, true, true, true, true, true, true, true, true, true, true, true, true, true, true, true, true, true, true, true, true, true, true, true, true, true, true, true, true, true, true, true, true, true, true, true, true, true, true, true, true, true, true, true, true, true, true, true, false] rfl rfl (any_of HT_.out (by kernel_rfl)) (fun _ _ _ h => h) (Or.inl ⟨by rfl, ?_⟩) ?_ ?_
                            rotate_left
                            · intro w'
                              go_simp
                              with_reducible rfl
                            rotate_left
                            · simp only [Act.put, List.setIfInBounds_toArray, List.set_cons_zero, List.set_cons_succ, i64_w, i32_w]
                              rfl
                            refine pure_ (i := 54) (N := some 6) (v := ?_) (a' := ?_) #[true, true, true, true, true, true, true, true, true, true, true, true, true, true, true, true, true, true, true, true, true, true, true, true, true, true, true, true, true, true, true, true, true, true, true, true, true, true, true, true, true, true, true, true, true, true, true, true, true, true, true, true, true, true, true] rfl rfl (any_of HT_.out (by kernel_rfl)) (fun _ _ _ h => h) (Or.inl ⟨by rfl, ?_⟩) ?_ ?_
                            rotate_left
                            · intro w'
                              go_simp
                              with_reducible rfl
                            rotate_left
                            · simp only [Act.put, List.setIfInBounds_toArray, List.set_cons_zero, List.set_cons_succ, i64_w, i32_w]
                              rfl
                            refine done_ (done_of HT_.out (by kernel_rfl)) ?_
                            try go_wp2
                            go_ret
                            exact ⟨by first | rfl | (simp [errW_none, errW_some] <;> rfl) | (simp [*, errW_none, errW_some] <;> rfl), by repeat (first | (with_reducible first | exact HB.out | apply below_alloc | apply pw_below_drewN | apply below_drew1 | refine below_set ?_ GE470.out | refine below_set ?_ GE480.out | refine below_set ?_ GE490.out | refine below_set ?_ GE506.out) | exact HB.out)⟩
                          · rw [if_neg c63] at H
                            have c63b0 : (t481.toList == t462.toList) = false := beq_eq_false_iff_ne.mpr c63
                            have c63b1 : (t481.toList != t462.toList) = true := bne_iff_ne.mpr c63
                            exact absurd H (by simp)
                        · rw [if_neg c62] at H
                          have c62b0 : (t489.toList == ([120] : List UInt8)) = false := beq_eq_false_iff_ne.mpr c62
                          have c62b1 : (t489.toList != ([120] : List UInt8)) = true := bne_iff_ne.mpr c62
                          exact absurd H (by simp)
                      · replace c61 := Bool.eq_false_iff.mpr c61
                        subst c61
                        have H1 : (none) = some r := by rw [if_neg (show ¬ (false = true) by decide)] at H; exact H
                        clear H
                        have H := H1
                        clear H1
                        exact absurd H (by simp)
                    · rw [if_neg c57] at H
                      have c57b0 : ((rdOf ByteArray.empty t494 0).toList == (((rdOf ByteArray.empty t491 0) ++ (⟨#[44, 32]⟩ : ByteArray)) ++ ((rd_T28 t502 0).f1)).toList) = false := beq_eq_false_iff_ne.mpr c57
                      have c57b1 : ((rdOf ByteArray.empty t494 0).toList != (((rdOf ByteArray.empty t491 0) ++ (⟨#[44, 32]⟩ : ByteArray)) ++ ((rd_T28 t502 0).f1)).toList) = true := bne_iff_ne.mpr c57
                      exact absurd H (by simp)
                  · rw [if_neg c56] at H
                    exact absurd H (by simp)
                · rw [if_neg c55] at H
                  exact absurd H (by simp)
              · rw [if_neg c54] at H
                exact absurd H (by simp)
            · rw [if_neg c53] at H
              exact absurd H (by simp)
          · rw [if_neg c52] at H
            exact absurd H (by simp)
  · replace c5 := Bool.eq_false_iff.mpr c5
    subst c5
    have H1 : (none) = some r := by rw [if_neg (show ¬ (false = true) by decide)] at H; exact H
    clear H
    have H := H1
    clear H1
    exact absurd H (by simp)

/-- THE ONE PURE STATEMENT of lockagelaw15_ForwardTwice: yours. -/
def lockagelaw15_ForwardTwice.Pure : Prop := ∀ (l0 : List Int) (a1 : Int) (a2 : Int), l0.length ≤ maxLen → l0.length * 1 ≤ 140737488351232 → (∀ x ∈ l0, (Lit.int .u8 x).wf = true) → (Lit.int .u8 a1).wf = true → (Lit.int .u8 a2).wf = true → ∃ k, lockagelaw15_ForwardTwice.f k l0 a1 a2 = some true

end Go.Proofs.YthmpfncidpjnjaaDoor.P
