/- Printed by a program of the session out of the translation: plain Lean functions, each with the contract that the Go function computes it. -/
import Derived.Test.YthmpfncidpjnjaaDoorPx0
import Derived.Test.YthmpfncidpjnjaaDoorPx3
import Derived.Test.YthmpfncidpjnjaaDoorPx4
import Derived.Test.YthmpfncidpjnjaaDoorPx5
import Derived.Test.YthmpfncidpjnjaaDoorPx6
import Derived.Test.YthmpfncidpjnjaaDoorPx11
import Derived.Test.YthmpfncidpjnjaaDoorHK
import Derived.Test.YthmpfncidpjnjaaDoorHZA
import Derived.Test.YthmpfncidpjnjaaDoorHV2
namespace Go.Proofs.YthmpfncidpjnjaaDoor.P
open Go.RowKit Go.Proofs.YthmpfncidpjnjaaDoorW.PrintWords Go.Proofs.YthmpfncidpjnjaaDoorW.PrintLast Go.Proofs.YthmpfncidpjnjaaDoorW.PrintMore
attribute [local go_sem] max2_int min2_int max_two min_two max_three min_three max_four min_four   -- for this text's walks alone
set_option linter.unusedVariables false
set_option linter.unusedSimpArgs false

/-! ### lockagelaw15_ForwardHops: function 5 -/
mutual
def lockagelaw15_ForwardHops.l0 : Nat → List Int → Int → Bool → List Bool → Int → Int → Option (Bool)
  | 0, _, _, _, _, _, _ => none
  | k + 1, x0, x1, x5, x18, x19, x20 => if x20 < x19 then (if 0 ≤ x20 then (if x20 < (x18.length : Int) then ((lockagelaw06_Made.f k x0 (rdOf false x18 x20)).bind fun bt405 => ((forward_Request.f k bt405.1 bt405.2.1 bt405.2.2.1 bt405.2.2.2.1 bt405.2.2.2.2.1 bt405.2.2.2.2.2 (⟨#[]⟩ : ByteArray) (wrap64 (x1))).bind fun bt414 => (if rdOf false x18 x20 = true then ((forward_Answer.f k bt405.1 bt405.2.1 bt405.2.2.1 bt405.2.2.2.1 bt405.2.2.2.2.1 bt405.2.2.2.2.2 (⟨#[]⟩ : ByteArray)).bind fun bt424 => (lockagelaw15_ForwardHops.j1 k x0 x1 x5 (rdOf false x18 x20) x18 x19 x20 bt405.1 bt405.2.1 bt405.2.2.1 bt405.2.2.2.1 bt405.2.2.2.2.1 bt405.2.2.2.2.2 bt424.1 bt424.2.1 bt424.2.2.1 bt424.2.2.2.1 bt424.2.2.2.2.1 bt424.2.2.2.2.2.1 bt424.2.2.2.2.2.2)) else (lockagelaw15_ForwardHops.j1 k x0 x1 x5 (rdOf false x18 x20) x18 x19 x20 bt405.1 bt405.2.1 bt405.2.2.1 bt405.2.2.2.1 bt405.2.2.2.2.1 bt405.2.2.2.2.2 bt414.1 bt414.2.1 bt414.2.2.1 bt414.2.2.2.1 bt414.2.2.2.2.1 bt414.2.2.2.2.2.1 bt414.2.2.2.2.2.2)))) else (none)) else (none)) else (some x5)
def lockagelaw15_ForwardHops.j1 : Nat → List Int → Int → Bool → Bool → List Bool → Int → Int → ByteArray → ByteArray → Int → ByteArray → Int → List (S28) → ByteArray → ByteArray → Int → ByteArray → Int → List (S28) → ByteArray → Option (Bool)
  | 0, _, _, _, _, _, _, _, _, _, _, _, _, _, _, _, _, _, _, _, _ => none
  | k + 1, x0, x1, x5, x7, x18, x19, x20, x414000, x414001, x414002, x414003, x414004, x414005, x424000, x424001, x424002, x424003, x424004, x424005, x424006 => (lockageref06_Right.f k x424000 x424001 x424002 x424003 x424004 x424005 x7).bind fun t433 => (if t433 = true then (lockagelaw15_ForwardHops.j2 k x0 x1 x5 x7 x424005 x18 x19 x20 (decide ((x424005.length : Int) < 1)) x414000 x414001 x414002 x414003 x414004 x414005) else (lockagelaw15_ForwardHops.j2 k x0 x1 x5 x7 x424005 x18 x19 x20 true x414000 x414001 x414002 x414003 x414004 x414005))
def lockagelaw15_ForwardHops.j2 : Nat → List Int → Int → Bool → Bool → List (S28) → List Bool → Int → Int → Bool → ByteArray → ByteArray → Int → ByteArray → Int → List (S28) → Option (Bool)
  | 0, _, _, _, _, _, _, _, _, _, _, _, _, _, _, _ => none
  | k + 1, x0, x1, x5, x7, x10, x18, x19, x20, x48, x414000, x414001, x414002, x414003, x414004, x414005 => if x48 = true then (none) else ((forward_Hops.f k x414005).bind fun t434 => (lockagelaw15_ForwardHops.l1 k x0 x1 x5 x7 x10 t434 0 x18 x19 x20 x414000 x414001 x414002 x414003 x414004 x414005))
def lockagelaw15_ForwardHops.l1 : Nat → List Int → Int → Bool → Bool → List (S28) → List ByteArray → Int → List Bool → Int → Int → ByteArray → ByteArray → Int → ByteArray → Int → List (S28) → Option (Bool)
  | 0, _, _, _, _, _, _, _, _, _, _, _, _, _, _, _, _ => none
  | k + 1, x0, x1, x5, x7, x10, x11, x12, x18, x19, x20, x414000, x414001, x414002, x414003, x414004, x414005 => if x12 < (x11.length : Int) then (if 0 ≤ (wrap64 ((x10.length : Int) - 1)) then (if (wrap64 ((x10.length : Int) - 1)) < (x10.length : Int) then ((lockageref05_Lower.f k ((rd_T28 x10 (wrap64 ((x10.length : Int) - 1))).f0)).bind fun t438 => (if 0 ≤ x12 then (if (t438.toList = (rdOf ByteArray.empty x11 x12).toList) then (lockagelaw15_ForwardHops.l1 k x0 x1 x5 x7 x10 x11 (wrap64 (x12 + 1)) x18 x19 x20 x414000 x414001 x414002 x414003 x414004 x414005) else ((lockageref05_Get.f k x10 (rdOf ByteArray.empty x11 x12)).bind fun t441 => (if (t441.length : Int) > 0 then (none) else (lockagelaw15_ForwardHops.l1 k x0 x1 x5 x7 x10 x11 (wrap64 (x12 + 1)) x18 x19 x20 x414000 x414001 x414002 x414003 x414004 x414005)))) else (none))) else (none)) else (none)) else (if ([] : List ByteArray).length + x11.length < 8796093022208 then ((some (([] : List ByteArray) ++ x11 : List ByteArray)).bind fun y444 => (if y444.length < 8796093022208 then ((some (y444 ++ [(⟨#[99, 111, 110, 116, 101, 110, 116, 45, 108, 101, 110, 103, 116, 104]⟩ : ByteArray)] : List ByteArray)).bind fun y447 => (if x7 = true then (lockagelaw15_ForwardHops.j4 k x0 x1 x5 x10 y447 x18 x19 x20 x414000 x414001 x414002 x414003 x414004 x414005) else (if y447.length < 8796093022208 then (lockagelaw15_ForwardHops.j4 k x0 x1 x5 x10 (y447 ++ [(⟨#[120, 45, 102, 111, 114, 119, 97, 114, 100, 101, 100, 45, 102, 111, 114]⟩ : ByteArray)]) x18 x19 x20 x414000 x414001 x414002 x414003 x414004 x414005) else (none)))) else (none))) else (none))
def lockagelaw15_ForwardHops.j4 : Nat → List Int → Int → Bool → List (S28) → List ByteArray → List Bool → Int → Int → ByteArray → ByteArray → Int → ByteArray → Int → List (S28) → Option (Bool)
  | 0, _, _, _, _, _, _, _, _, _, _, _, _, _, _ => none
  | k + 1, x0, x1, x5, x10, x14, x18, x19, x20, x414000, x414001, x414002, x414003, x414004, x414005 => if 0 ≤ (wrap64 ((x10.length : Int) - 1)) then (if (wrap64 ((x10.length : Int) - 1)) ≤ (x10.length : Int) then ((lockageref05_Drop.f k x414005 x14).bind fun t457 => ((lockageref05_Same.f k (x10.take ((wrap64 ((x10.length : Int) - 1)) : Int).toNat) t457).bind fun t460 => (if t460 = true then (lockagelaw15_ForwardHops.l0 k x0 x1 x5 x18 x19 (wrap64 (x20 + 1))) else (none)))) else (none)) else (none)
end
def lockagelaw15_ForwardHops.f (k : Nat) (l0 : List Int) (a1 : Int) : Option (Bool) := (lockagelaw15_awake.f k).bind fun t400 => (if t400 = true then ((some (([false, true] : List Bool) : List Bool)).bind fun y401 => (lockagelaw15_ForwardHops.l0 k l0 a1 t400 y401 (y401.length : Int) 0)) else (none))
theorem lockagelaw15_ForwardHops.mono_l : ∀ k, (∀ y0 y1 y2 y3 y4 y5, LeO (lockagelaw15_ForwardHops.l0 k y0 y1 y2 y3 y4 y5) (lockagelaw15_ForwardHops.l0 (k + 1) y0 y1 y2 y3 y4 y5)) ∧ (∀ y0 y1 y2 y3 y4 y5 y6 y7 y8 y9 y10 y11 y12 y13 y14 y15 y16 y17 y18 y19, LeO (lockagelaw15_ForwardHops.j1 k y0 y1 y2 y3 y4 y5 y6 y7 y8 y9 y10 y11 y12 y13 y14 y15 y16 y17 y18 y19) (lockagelaw15_ForwardHops.j1 (k + 1) y0 y1 y2 y3 y4 y5 y6 y7 y8 y9 y10 y11 y12 y13 y14 y15 y16 y17 y18 y19)) ∧ (∀ y0 y1 y2 y3 y4 y5 y6 y7 y8 y9 y10 y11 y12 y13 y14, LeO (lockagelaw15_ForwardHops.j2 k y0 y1 y2 y3 y4 y5 y6 y7 y8 y9 y10 y11 y12 y13 y14) (lockagelaw15_ForwardHops.j2 (k + 1) y0 y1 y2 y3 y4 y5 y6 y7 y8 y9 y10 y11 y12 y13 y14)) ∧ (∀ y0 y1 y2 y3 y4 y5 y6 y7 y8 y9 y10 y11 y12 y13 y14 y15, LeO (lockagelaw15_ForwardHops.l1 k y0 y1 y2 y3 y4 y5 y6 y7 y8 y9 y10 y11 y12 y13 y14 y15) (lockagelaw15_ForwardHops.l1 (k + 1) y0 y1 y2 y3 y4 y5 y6 y7 y8 y9 y10 y11 y12 y13 y14 y15)) ∧ (∀ y0 y1 y2 y3 y4 y5 y6 y7 y8 y9 y10 y11 y12 y13, LeO (lockagelaw15_ForwardHops.j4 k y0 y1 y2 y3 y4 y5 y6 y7 y8 y9 y10 y11 y12 y13) (lockagelaw15_ForwardHops.j4 (k + 1) y0 y1 y2 y3 y4 y5 y6 y7 y8 y9 y10 y11 y12 y13))
  | 0 => ⟨fun _ _ _ _ _ _ r h => by simp [lockagelaw15_ForwardHops.l0] at h, fun _ _ _ _ _ _ _ _ _ _ _ _ _ _ _ _ _ _ _ _ r h => by simp [lockagelaw15_ForwardHops.j1] at h, fun _ _ _ _ _ _ _ _ _ _ _ _ _ _ _ r h => by simp [lockagelaw15_ForwardHops.j2] at h, fun _ _ _ _ _ _ _ _ _ _ _ _ _ _ _ _ r h => by simp [lockagelaw15_ForwardHops.l1] at h, fun _ _ _ _ _ _ _ _ _ _ _ _ _ _ r h => by simp [lockagelaw15_ForwardHops.j4] at h⟩
  | k + 1 => by
    obtain ⟨ih0, ih1, ih2, ih3, ih4⟩ := lockagelaw15_ForwardHops.mono_l k
    refine ⟨?_, ?_, ?_, ?_, ?_⟩
    · intro y0 y1 y2 y3 y4 y5
      unfold lockagelaw15_ForwardHops.l0
      repeat' first
      | (with_reducible exact ih0 _ _ _ _ _ _)
      | (with_reducible exact ih1 _ _ _ _ _ _ _ _ _ _ _ _ _ _ _ _ _ _ _ _)
      | (with_reducible exact ih2 _ _ _ _ _ _ _ _ _ _ _ _ _ _ _)
      | (with_reducible exact ih3 _ _ _ _ _ _ _ _ _ _ _ _ _ _ _ _)
      | (with_reducible exact ih4 _ _ _ _ _ _ _ _ _ _ _ _ _ _)
      | (with_reducible exact forward_Answer.mono _ _ _ _ _ _ _ _)
      | (with_reducible exact forward_Hops.mono _ _)
      | (with_reducible exact forward_Request.mono _ _ _ _ _ _ _ _ _)
      | (with_reducible exact lockagelaw06_Made.mono _ _ _)
      | (with_reducible exact lockagelaw15_awake.mono _)
      | (with_reducible exact lockageref05_Drop.mono _ _ _)
      | (with_reducible exact lockageref05_Get.mono _ _ _)
      | (with_reducible exact lockageref05_Lower.mono _ _)
      | (with_reducible exact lockageref05_Same.mono _ _ _)
      | (with_reducible exact lockageref06_Right.mono _ _ _ _ _ _ _ _)
      | (with_reducible exact LeO.refl _)
      | (with_reducible exact LeO.none _)
      | (with_reducible refine LeO.ite ?_ ?_)
      | (with_reducible refine LeO.bind ?_ (fun _ => ?_))
      | exact ih0 _ _ _ _ _ _
      | exact ih1 _ _ _ _ _ _ _ _ _ _ _ _ _ _ _ _ _ _ _ _
      | exact ih2 _ _ _ _ _ _ _ _ _ _ _ _ _ _ _
      | exact ih3 _ _ _ _ _ _ _ _ _ _ _ _ _ _ _ _
      | exact ih4 _ _ _ _ _ _ _ _ _ _ _ _ _ _
      | exact forward_Answer.mono _ _ _ _ _ _ _ _
      | exact forward_Hops.mono _ _
      | exact forward_Request.mono _ _ _ _ _ _ _ _ _
      | exact lockagelaw06_Made.mono _ _ _
      | exact lockagelaw15_awake.mono _
      | exact lockageref05_Drop.mono _ _ _
      | exact lockageref05_Get.mono _ _ _
      | exact lockageref05_Lower.mono _ _
      | exact lockageref05_Same.mono _ _ _
      | exact lockageref06_Right.mono _ _ _ _ _ _ _ _
      | exact LeO.none _
      | refine LeO.ite ?_ ?_
      | refine LeO.bind ?_ (fun _ => ?_)
    · intro y0 y1 y2 y3 y4 y5 y6 y7 y8 y9 y10 y11 y12 y13 y14 y15 y16 y17 y18 y19
      unfold lockagelaw15_ForwardHops.j1
      repeat' first
      | (with_reducible exact ih0 _ _ _ _ _ _)
      | (with_reducible exact ih1 _ _ _ _ _ _ _ _ _ _ _ _ _ _ _ _ _ _ _ _)
      | (with_reducible exact ih2 _ _ _ _ _ _ _ _ _ _ _ _ _ _ _)
      | (with_reducible exact ih3 _ _ _ _ _ _ _ _ _ _ _ _ _ _ _ _)
      | (with_reducible exact ih4 _ _ _ _ _ _ _ _ _ _ _ _ _ _)
      | (with_reducible exact forward_Answer.mono _ _ _ _ _ _ _ _)
      | (with_reducible exact forward_Hops.mono _ _)
      | (with_reducible exact forward_Request.mono _ _ _ _ _ _ _ _ _)
      | (with_reducible exact lockagelaw06_Made.mono _ _ _)
      | (with_reducible exact lockagelaw15_awake.mono _)
      | (with_reducible exact lockageref05_Drop.mono _ _ _)
      | (with_reducible exact lockageref05_Get.mono _ _ _)
      | (with_reducible exact lockageref05_Lower.mono _ _)
      | (with_reducible exact lockageref05_Same.mono _ _ _)
      | (with_reducible exact lockageref06_Right.mono _ _ _ _ _ _ _ _)
      | (with_reducible exact LeO.refl _)
      | (with_reducible exact LeO.none _)
      | (with_reducible refine LeO.ite ?_ ?_)
      | (with_reducible refine LeO.bind ?_ (fun _ => ?_))
      | exact ih0 _ _ _ _ _ _
      | exact ih1 _ _ _ _ _ _ _ _ _ _ _ _ _ _ _ _ _ _ _ _
      | exact ih2 _ _ _ _ _ _ _ _ _ _ _ _ _ _ _
      | exact ih3 _ _ _ _ _ _ _ _ _ _ _ _ _ _ _ _
      | exact ih4 _ _ _ _ _ _ _ _ _ _ _ _ _ _
      | exact forward_Answer.mono _ _ _ _ _ _ _ _
      | exact forward_Hops.mono _ _
      | exact forward_Request.mono _ _ _ _ _ _ _ _ _
      | exact lockagelaw06_Made.mono _ _ _
      | exact lockagelaw15_awake.mono _
      | exact lockageref05_Drop.mono _ _ _
      | exact lockageref05_Get.mono _ _ _
      | exact lockageref05_Lower.mono _ _
      | exact lockageref05_Same.mono _ _ _
      | exact lockageref06_Right.mono _ _ _ _ _ _ _ _
      | exact LeO.none _
      | refine LeO.ite ?_ ?_
      | refine LeO.bind ?_ (fun _ => ?_)
    · intro y0 y1 y2 y3 y4 y5 y6 y7 y8 y9 y10 y11 y12 y13 y14
      unfold lockagelaw15_ForwardHops.j2
      repeat' first
      | (with_reducible exact ih0 _ _ _ _ _ _)
      | (with_reducible exact ih1 _ _ _ _ _ _ _ _ _ _ _ _ _ _ _ _ _ _ _ _)
      | (with_reducible exact ih2 _ _ _ _ _ _ _ _ _ _ _ _ _ _ _)
      | (with_reducible exact ih3 _ _ _ _ _ _ _ _ _ _ _ _ _ _ _ _)
      | (with_reducible exact ih4 _ _ _ _ _ _ _ _ _ _ _ _ _ _)
      | (with_reducible exact forward_Answer.mono _ _ _ _ _ _ _ _)
      | (with_reducible exact forward_Hops.mono _ _)
      | (with_reducible exact forward_Request.mono _ _ _ _ _ _ _ _ _)
      | (with_reducible exact lockagelaw06_Made.mono _ _ _)
      | (with_reducible exact lockagelaw15_awake.mono _)
      | (with_reducible exact lockageref05_Drop.mono _ _ _)
      | (with_reducible exact lockageref05_Get.mono _ _ _)
      | (with_reducible exact lockageref05_Lower.mono _ _)
      | (with_reducible exact lockageref05_Same.mono _ _ _)
      | (with_reducible exact lockageref06_Right.mono _ _ _ _ _ _ _ _)
      | (with_reducible exact LeO.refl _)
      | (with_reducible exact LeO.none _)
      | (with_reducible refine LeO.ite ?_ ?_)
      | (with_reducible refine LeO.bind ?_ (fun _ => ?_))
      | exact ih0 _ _ _ _ _ _
      | exact ih1 _ _ _ _ _ _ _ _ _ _ _ _ _ _ _ _ _ _ _ _
      | exact ih2 _ _ _ _ _ _ _ _ _ _ _ _ _ _ _
      | exact ih3 _ _ _ _ _ _ _ _ _ _ _ _ _ _ _ _
      | exact ih4 _ _ _ _ _ _ _ _ _ _ _ _ _ _
      | exact forward_Answer.mono _ _ _ _ _ _ _ _
      | exact forward_Hops.mono _ _
      | exact forward_Request.mono _ _ _ _ _ _ _ _ _
      | exact lockagelaw06_Made.mono _ _ _
      | exact lockagelaw15_awake.mono _
      | exact lockageref05_Drop.mono _ _ _
      | exact lockageref05_Get.mono _ _ _
      | exact lockageref05_Lower.mono _ _
      | exact lockageref05_Same.mono _ _ _
      | exact lockageref06_Right.mono _ _ _ _ _ _ _ _
      | exact LeO.none _
      | refine LeO.ite ?_ ?_
      | refine LeO.bind ?_ (fun _ => ?_)
    · intro y0 y1 y2 y3 y4 y5 y6 y7 y8 y9 y10 y11 y12 y13 y14 y15
      unfold lockagelaw15_ForwardHops.l1
      repeat' first
      | (with_reducible exact ih0 _ _ _ _ _ _)
      | (with_reducible exact ih1 _ _ _ _ _ _ _ _ _ _ _ _ _ _ _ _ _ _ _ _)
      | (with_reducible exact ih2 _ _ _ _ _ _ _ _ _ _ _ _ _ _ _)
      | (with_reducible exact ih3 _ _ _ _ _ _ _ _ _ _ _ _ _ _ _ _)
      | (with_reducible exact ih4 _ _ _ _ _ _ _ _ _ _ _ _ _ _)
      | (with_reducible exact forward_Answer.mono _ _ _ _ _ _ _ _)
      | (with_reducible exact forward_Hops.mono _ _)
      | (with_reducible exact forward_Request.mono _ _ _ _ _ _ _ _ _)
      | (with_reducible exact lockagelaw06_Made.mono _ _ _)
      | (with_reducible exact lockagelaw15_awake.mono _)
      | (with_reducible exact lockageref05_Drop.mono _ _ _)
      | (with_reducible exact lockageref05_Get.mono _ _ _)
      | (with_reducible exact lockageref05_Lower.mono _ _)
      | (with_reducible exact lockageref05_Same.mono _ _ _)
      | (with_reducible exact lockageref06_Right.mono _ _ _ _ _ _ _ _)
      | (with_reducible exact LeO.refl _)
      | (with_reducible exact LeO.none _)
      | (with_reducible refine LeO.ite ?_ ?_)
      | (with_reducible refine LeO.bind ?_ (fun _ => ?_))
      | exact ih0 _ _ _ _ _ _
      | exact ih1 _ _ _ _ _ _ _ _ _ _ _ _ _ _ _ _ _ _ _ _
      | exact ih2 _ _ _ _ _ _ _ _ _ _ _ _ _ _ _
      | exact ih3 _ _ _ _ _ _ _ _ _ _ _ _ _ _ _ _
      | exact ih4 _ _ _ _ _ _ _ _ _ _ _ _ _ _
      | exact forward_Answer.mono _ _ _ _ _ _ _ _
      | exact forward_Hops.mono _ _
      | exact forward_Request.mono _ _ _ _ _ _ _ _ _
      | exact lockagelaw06_Made.mono _ _ _
      | exact lockagelaw15_awake.mono _
      | exact lockageref05_Drop.mono _ _ _
      | exact lockageref05_Get.mono _ _ _
      | exact lockageref05_Lower.mono _ _
      | exact lockageref05_Same.mono _ _ _
      | exact lockageref06_Right.mono _ _ _ _ _ _ _ _
      | exact LeO.none _
      | refine LeO.ite ?_ ?_
      | refine LeO.bind ?_ (fun _ => ?_)
    · intro y0 y1 y2 y3 y4 y5 y6 y7 y8 y9 y10 y11 y12 y13
      unfold lockagelaw15_ForwardHops.j4
      repeat' first
      | (with_reducible exact ih0 _ _ _ _ _ _)
      | (with_reducible exact ih1 _ _ _ _ _ _ _ _ _ _ _ _ _ _ _ _ _ _ _ _)
      | (with_reducible exact ih2 _ _ _ _ _ _ _ _ _ _ _ _ _ _ _)
      | (with_reducible exact ih3 _ _ _ _ _ _ _ _ _ _ _ _ _ _ _ _)
      | (with_reducible exact ih4 _ _ _ _ _ _ _ _ _ _ _ _ _ _)
      | (with_reducible exact forward_Answer.mono _ _ _ _ _ _ _ _)
      | (with_reducible exact forward_Hops.mono _ _)
      | (with_reducible exact forward_Request.mono _ _ _ _ _ _ _ _ _)
      | (with_reducible exact lockagelaw06_Made.mono _ _ _)
      | (with_reducible exact lockagelaw15_awake.mono _)
      | (with_reducible exact lockageref05_Drop.mono _ _ _)
      | (with_reducible exact lockageref05_Get.mono _ _ _)
      | (with_reducible exact lockageref05_Lower.mono _ _)
      | (with_reducible exact lockageref05_Same.mono _ _ _)
      | (with_reducible exact lockageref06_Right.mono _ _ _ _ _ _ _ _)
      | (with_reducible exact LeO.refl _)
      | (with_reducible exact LeO.none _)
      | (with_reducible refine LeO.ite ?_ ?_)
      | (with_reducible refine LeO.bind ?_ (fun _ => ?_))
      | exact ih0 _ _ _ _ _ _
      | exact ih1 _ _ _ _ _ _ _ _ _ _ _ _ _ _ _ _ _ _ _ _
      | exact ih2 _ _ _ _ _ _ _ _ _ _ _ _ _ _ _
      | exact ih3 _ _ _ _ _ _ _ _ _ _ _ _ _ _ _ _
      | exact ih4 _ _ _ _ _ _ _ _ _ _ _ _ _ _
      | exact forward_Answer.mono _ _ _ _ _ _ _ _
      | exact forward_Hops.mono _ _
      | exact forward_Request.mono _ _ _ _ _ _ _ _ _
      | exact lockagelaw06_Made.mono _ _ _
      | exact lockagelaw15_awake.mono _
      | exact lockageref05_Drop.mono _ _ _
      | exact lockageref05_Get.mono _ _ _
      | exact lockageref05_Lower.mono _ _
      | exact lockageref05_Same.mono _ _ _
      | exact lockageref06_Right.mono _ _ _ _ _ _ _ _
      | exact LeO.none _
      | refine LeO.ite ?_ ?_
      | refine LeO.bind ?_ (fun _ => ?_)
theorem lockagelaw15_ForwardHops.mono : ∀ a0 a1 k, LeO (lockagelaw15_ForwardHops.f k a0 a1) (lockagelaw15_ForwardHops.f (k + 1) a0 a1) := by
  intro a0 a1 k
  obtain ⟨ih0, ih1, ih2, ih3, ih4⟩ := lockagelaw15_ForwardHops.mono_l k
  unfold lockagelaw15_ForwardHops.f
  repeat' first
      | (with_reducible exact ih0 _ _ _ _ _ _)
      | (with_reducible exact ih1 _ _ _ _ _ _ _ _ _ _ _ _ _ _ _ _ _ _ _ _)
      | (with_reducible exact ih2 _ _ _ _ _ _ _ _ _ _ _ _ _ _ _)
      | (with_reducible exact ih3 _ _ _ _ _ _ _ _ _ _ _ _ _ _ _ _)
      | (with_reducible exact ih4 _ _ _ _ _ _ _ _ _ _ _ _ _ _)
      | (with_reducible exact forward_Answer.mono _ _ _ _ _ _ _ _)
      | (with_reducible exact forward_Hops.mono _ _)
      | (with_reducible exact forward_Request.mono _ _ _ _ _ _ _ _ _)
      | (with_reducible exact lockagelaw06_Made.mono _ _ _)
      | (with_reducible exact lockagelaw15_awake.mono _)
      | (with_reducible exact lockageref05_Drop.mono _ _ _)
      | (with_reducible exact lockageref05_Get.mono _ _ _)
      | (with_reducible exact lockageref05_Lower.mono _ _)
      | (with_reducible exact lockageref05_Same.mono _ _ _)
      | (with_reducible exact lockageref06_Right.mono _ _ _ _ _ _ _ _)
      | (with_reducible exact LeO.refl _)
      | (with_reducible exact LeO.none _)
      | (with_reducible refine LeO.ite ?_ ?_)
      | (with_reducible refine LeO.bind ?_ (fun _ => ?_))
      | exact ih0 _ _ _ _ _ _
      | exact ih1 _ _ _ _ _ _ _ _ _ _ _ _ _ _ _ _ _ _ _ _
      | exact ih2 _ _ _ _ _ _ _ _ _ _ _ _ _ _ _
      | exact ih3 _ _ _ _ _ _ _ _ _ _ _ _ _ _ _ _
      | exact ih4 _ _ _ _ _ _ _ _ _ _ _ _ _ _
      | exact forward_Answer.mono _ _ _ _ _ _ _ _
      | exact forward_Hops.mono _ _
      | exact forward_Request.mono _ _ _ _ _ _ _ _ _
      | exact lockagelaw06_Made.mono _ _ _
      | exact lockagelaw15_awake.mono _
      | exact lockageref05_Drop.mono _ _ _
      | exact lockageref05_Get.mono _ _ _
      | exact lockageref05_Lower.mono _ _
      | exact lockageref05_Same.mono _ _ _
      | exact lockageref06_Right.mono _ _ _ _ _ _ _ _
      | exact LeO.none _
      | refine LeO.ite ?_ ?_
      | refine LeO.bind ?_ (fun _ => ?_)
def lockagelaw15_ForwardHops.T18 : Bool × List (List Nat × List Nat) := (true, [([], []), ([], []), ([1], [1]), ([2], [2]), ([0, 3], [0, 3]), ([4], [4]), ([5], [5]), ([6], [6]), ([], []), ([], []), ([8, 9], [8, 9]), ([10], [10]), ([7, 11], [7, 11]), ([12, 7, 0, 1, 2, 3, 4, 5, 6, 7, 8, 9, 10, 11, 12], [12])])
def lockagelaw15_ForwardHops.B18 : List Nat := [0, 0, 2, 6, 15, 31, 63, 127, 0, 0, 768, 1792, 4095, 8191]
theorem lockagelaw15_ForwardHops.tab18 : rtab .any (opsOf Tryd.f5 18) = lockagelaw15_ForwardHops.T18 := by kernel_rfl
theorem lockagelaw15_ForwardHops.bits18 : waitsOk lockagelaw15_ForwardHops.T18.2 lockagelaw15_ForwardHops.B18 = true := by kernel_rfl
def lockagelaw15_ForwardHops.T24 : Bool × List (List Nat × List Nat) := (true, [([], []), ([], []), ([1], [1]), ([2], [2]), ([0, 3], [0, 3]), ([], []), ([5], [5]), ([], []), ([6, 7], [6, 7]), ([4, 8, 8], [4, 8]), ([9], [9])])
def lockagelaw15_ForwardHops.B24 : List Nat := [0, 0, 2, 6, 15, 0, 32, 0, 224, 511, 1023]
theorem lockagelaw15_ForwardHops.tab24 : rtab .any (opsOf Tryd.f5 24) = lockagelaw15_ForwardHops.T24 := by kernel_rfl
theorem lockagelaw15_ForwardHops.bits24 : waitsOk lockagelaw15_ForwardHops.T24.2 lockagelaw15_ForwardHops.B24 = true := by kernel_rfl
set_option maxHeartbeats 8000000 in
set_option maxRecDepth 100000 in
theorem lockagelaw15_ForwardHops.calls (k : Nat) (A0 : Option Addr) (c0 : Nat) (l0 : List Int) (a1 : Int) (r : Bool) (w : World) (hr0 : Kd.C (Kd.int .u8) w A0 l0.length l0) (hc0 : l0.length ≤ c0) (hG_ : H.GlobOk w) (h : lockagelaw15_ForwardHops.f k l0 a1 = some r) :
    Calls Tryd.prog 5 #[.slice A0 l0.length c0, .int .u8 a1] w fun e w' => e = .returned (.bool r) ∧ Below w.heap.size w w' := by
  have HG_ := Aside0.mk hG_
  clear hG_
  have hu24 := Tryd.underlying24
  have hu26 := Tryd.underlying26
  have HR0 := Aside0.mk hr0
  have HC0 := Aside0.mk hc0
  clear hr0 hc0
  have HB := Aside0.mk (Below.refl w.heap.size w)
  have H : ((lockagelaw15_awake.f k).bind fun t400 => (if t400 = true then ((some (([false, true] : List Bool) : List Bool)).bind fun y401 => (lockagelaw15_ForwardHops.l0 k l0 a1 t400 y401 (y401.length : Int) 0)) else (none))) = some r := h
  clear h
  replace H := Option.bind_eq_some_iff.mp H
  obtain ⟨t400, A30, H⟩ := H
  replace H : (if t400 = true then ((some (([false, true] : List Bool) : List Bool)).bind fun y401 => (lockagelaw15_ForwardHops.l0 k l0 a1 t400 y401 (y401.length : Int) 0)) else (none)) = some r := H
  have A3 := Aside0.mk A30
  clear A30
  by_cases c4 : t400 = true
  · subst c4
    have H1 : ((some (([false, true] : List Bool) : List Bool)).bind fun y401 => (lockagelaw15_ForwardHops.l0 k l0 a1 true y401 (y401.length : Int) 0)) = some r := by rw [if_pos rfl] at H; exact H
    clear H
    have H := H1
    clear H1
    obtain ⟨y401, hy401⟩ : ∃ y_ : List Bool, y_ = (([false, true] : List Bool)) := ⟨_, rfl⟩
    replace H : (lockagelaw15_ForwardHops.l0 k l0 a1 true y401 (y401.length : Int) 0) = some r := by first | (rw [hy401]; with_reducible exact H) | (have H2_ := (Option.bind_some _ _).symm.trans H; rw [hy401]; with_reducible exact H2_) | (have H2_ := (Option.bind_some _ _).symm.trans H; with_reducible exact H2_) | with_reducible exact H | (rw [hy401]; exact H) | exact H
    have Ny401 := Aside0.mk hy401
    clear hy401
    have H' := Aside0.mk H
    clear H
    go_enter Tryd.func5, Tryd.ntmps5
    go_wp2_with (first | ((with_reducible refine gate_callee (f := 7) rfl ?_); refine goesL_ (some 15) rfl rfl Tryd.func7 (by kernel_rfl) rfl #[] rfl (by (try simp only [List.map_toArray, List.map_cons, List.map_nil]); first | done | rfl | (simp only [List.length_drop, List.length_take]; rfl)) ?_; (with_reducible refine (lockagelaw15_awake.calls k  true _ ?side1 A3.out).mono ?_); (case side1 => exact glob_below HG_.out (by repeat (first | (with_reducible first | exact HB.out | apply below_alloc | apply pw_below_drewN | apply below_drew1) | exact HB.out))); rintro e w5 ⟨rfl, hb⟩; refine ⟨_, rfl, ?_⟩; have n0_ := Aside0.mk (below_step (by repeat (first | (with_reducible first | exact HB.out | apply below_alloc | apply pw_below_drewN | apply below_drew1) | exact HB.out)) hb); clear HB; have HB := n0_; clear n0_; (try clear hb); (try clear hb2); (try clear hk); (try clear hi)) | ((with_reducible refine gate_dst (N := 18) rfl ?_); (try (refine gate_guard (by rfl) ?_; dsimp only)); refine Kd.R_lit Kd.bool _ 4 ?hg (N := 18) ?hd (xs := ([false, true] : List Bool)) (inner := [.bool false, .bool true]) (ok := fun _ => True) (okp := fun _ => True) ?hr ?hp (fun _ hk => hk) trivial (Below.refl _ _) (Nat.le_refl _) (by simp) ?_; (case hd => rfl); (case hg => rfl); (case hr => first | (go_simp; done) | (go_simp; rfl)); (case hp => exact (Reps.one (show Kd.M Kd.bool _ _ _ false [.bool false] from rfl) (Reps.one (show Kd.M Kd.bool _ _ _ true [.bool true] from rfl) (Reps.none _ _)))); intro v402 w6 ho7 hb hg_ hnew_; clear hg_ hnew_; (first | rw [← Ny401.out] at ho7 | (simp only [Int.reduceToNat] at ho7; rw [← Ny401.out] at ho7)); have n0_ := Aside0.mk (Kd.R_lower ho7 (below_size (by repeat (first | (with_reducible first | exact HB.out | apply below_alloc | apply pw_below_drewN | apply below_drew1) | exact HB.out)))); have n1_ := Aside0.mk (below_step (by repeat (first | (with_reducible first | exact HB.out | apply below_alloc | apply pw_below_drewN | apply below_drew1) | exact HB.out)) hb); clear HB; have HO403 := n0_; have HB := n1_; clear n0_ n1_; clear hb ho7; obtain ⟨Ao8, co8, eo8⟩ := Kd.R_slice HO403.out; subst eo8))
    go_loopg [20] k (fun kq v20 w' => ∃ (x20_1 : Int), v20 = .int .i64 x20_1 ∧ Aside0 (lockagelaw15_ForwardHops.l0 kq l0 a1 true y401 (y401.length : Int) x20_1 = some r) ∧ Aside0 (kq ≤ k) ∧ Aside0 (Kd.R Kd.bool 4 w' w.heap.size (fun _ => True) (.slice Ao8 y401.length co8) y401) ∧ Aside0 (Below w.heap.size w w'))
    case atStart => exact ⟨(0), (by first | rfl | (simp; done) | (simp [*]; done)), H', ⟨Nat.le_refl _⟩, ⟨by (with_reducible repeat (first | apply Kd.R_alloc | apply Kd.R_drewN | apply Kd.R_drew)); exact HO403.out⟩, ⟨by repeat (first | (with_reducible first | exact HB.out | apply below_alloc | apply pw_below_drewN | apply below_drew1) | exact HB.out)⟩⟩
    case round =>
      clear H'
      try clear p2
      try clear c4
      try clear c5
      try clear c7
      obtain ⟨x20_1, rfl, HA, HK1, HO_18, HB⟩ := hrel
      cases gk with
      | zero => exact absurd HA.out (by simp [lockagelaw15_ForwardHops.l0])
      | succ k1 =>
        have H := HA.out
        clear HA
        simp only [lockagelaw15_ForwardHops.l0] at H
        by_cases c9 : x20_1 < (y401.length : Int)
        · rw [if_pos c9] at H
          have c9b0 : decide (x20_1 < (y401.length : Int)) = true := decide_eq_true c9
          clear c9
          by_cases c10 : 0 ≤ x20_1
          · rw [if_pos c10] at H
            have c10b0 : decide (0 ≤ x20_1) = true := decide_eq_true c10
            clear c10
            by_cases c11 : x20_1 < (y401.length : Int)
            · rw [if_pos c11] at H
              have c11b0 : decide (x20_1 < (y401.length : Int)) = true := decide_eq_true c11
              clear c11
              obtain ⟨bz, hbz⟩ : ∃ b_ : Bool, b_ = rdOf false y401 x20_1 := ⟨_, rfl⟩
              rw [← hbz] at H
              have NBZ := Aside0.mk hbz
              clear hbz
              replace H := Option.bind_eq_some_iff.mp H
              obtain ⟨⟨t405, t406, t407, t408, t409, t410⟩, A120, H⟩ := H
              replace H : ((forward_Request.f k1 t405 t406 t407 t408 t409 t410 (⟨#[]⟩ : ByteArray) (wrap64 (a1))).bind fun bt414 => (if bz = true then ((forward_Answer.f k1 t405 t406 t407 t408 t409 t410 (⟨#[]⟩ : ByteArray)).bind fun bt424 => (lockagelaw15_ForwardHops.j1 k1 l0 a1 true bz y401 (y401.length : Int) x20_1 t405 t406 t407 t408 t409 t410 bt424.1 bt424.2.1 bt424.2.2.1 bt424.2.2.2.1 bt424.2.2.2.2.1 bt424.2.2.2.2.2.1 bt424.2.2.2.2.2.2)) else (lockagelaw15_ForwardHops.j1 k1 l0 a1 true bz y401 (y401.length : Int) x20_1 t405 t406 t407 t408 t409 t410 bt414.1 bt414.2.1 bt414.2.2.1 bt414.2.2.2.1 bt414.2.2.2.2.1 bt414.2.2.2.2.2.1 bt414.2.2.2.2.2.2))) = some r := H
              have A12 := Aside0.mk A120
              clear A120
              replace H := Option.bind_eq_some_iff.mp H
              obtain ⟨⟨t414, t415, t416, t417, t418, t419, t422⟩, A130, H⟩ := H
              replace H : (if bz = true then ((forward_Answer.f k1 t405 t406 t407 t408 t409 t410 (⟨#[]⟩ : ByteArray)).bind fun bt424 => (lockagelaw15_ForwardHops.j1 k1 l0 a1 true bz y401 (y401.length : Int) x20_1 t405 t406 t407 t408 t409 t410 bt424.1 bt424.2.1 bt424.2.2.1 bt424.2.2.2.1 bt424.2.2.2.2.1 bt424.2.2.2.2.2.1 bt424.2.2.2.2.2.2)) else (lockagelaw15_ForwardHops.j1 k1 l0 a1 true bz y401 (y401.length : Int) x20_1 t405 t406 t407 t408 t409 t410 t414 t415 t416 t417 t418 t419 t422)) = some r := H
              have A13 := Aside0.mk A130
              clear A130
              have HC14 := Aside0.mk H
              clear H
              have p404 : 0 ≤ (x20_1 : Int) := of_decide_eq_true (by first | (with_reducible assumption) | assumption)
              have q404 : x20_1 < (y401.length : Int) := of_decide_eq_true (by first | (with_reducible assumption) | assumption)
              obtain ⟨ad404, e404, hx404_0⟩ := Kd.at_bool (Kd.R_reads' HO_18.out).2.2 x20_1 p404 q404
              (try rw [← NBZ.out] at hx404_0)
              cases e404
              replace p404 := eq_true p404
              replace q404 := eq_true q404
              go_upto_if 32 with (first | ((with_reducible refine gate_callee (f := 9) rfl ?_); refine goesL_ (some 26) rfl rfl Tryd.func9 (by kernel_rfl) rfl #[.slice A0 l0.length c0, .bool bz] rfl (by (try simp only [List.map_toArray, List.map_cons, List.map_nil]); first | done | rfl | (simp only [List.length_drop, List.length_take]; rfl)) ?_; (with_reducible refine (lockagelaw06_Made.calls k1 _ _ l0 bz t405 t406 t407 t408 t409 t410 _ ?side1 ?side2 A12.out).mono ?_); (case side1 => repeat (first | exact (Kd.C_below HR0.out HB.out) | (with_reducible refine Kd.C_alloc ?_ _) | (with_reducible refine Kd.C_drewN ?_ _) | (with_reducible refine Kd.C_drew ?_))); (case side2 => exact HC0.out); rintro e w15 ⟨v411, rfl, ho0, hb⟩; refine ⟨_, rfl, ?_⟩; have n0_ := Aside0.mk (Kd.R_below (by (with_reducible repeat (first | apply Kd.R_alloc | apply Kd.R_drewN | apply Kd.R_drew)); exact HO_18.out) hb); have n1_ := Aside0.mk (Kd.R_lower ho0 (below_size (by repeat (first | (with_reducible first | exact HB.out | apply below_alloc | apply pw_below_drewN | apply below_drew1) | exact HB.out)))); have n2_ := Aside0.mk (below_step (by repeat (first | (with_reducible first | exact HB.out | apply below_alloc | apply pw_below_drewN | apply below_drew1) | exact HB.out)) hb); clear HO_18; clear HB; have HO_18 := n0_; have HO412 := n1_; have HB := n2_; clear n0_ n1_ n2_; (try clear hb); (try clear hb2); (try clear hk); (try clear hi); (try clear ho0)) | ((with_reducible refine gate_dst (N := 8) rfl ?_); (try (refine gate_guard (by rfl) ?_; dsimp only)); refine box_event ?hg (N := 8) ?hd (cs := #[.string (⟨#[]⟩ : ByteArray), .string (⟨#[]⟩ : ByteArray), .int .i64 0, .string (⟨#[]⟩ : ByteArray), .int .i64 0, .slice none 0 0]) (t := 24) ?hr ?_; (case hd => rfl); (case hg => rfl); (case hr => first | (go_simp; done) | (go_simp; rfl)); intro gb413 hg w16 hbox hb; have n0_ := Aside0.mk (Kd.R_below (by (with_reducible repeat (first | apply Kd.R_alloc | apply Kd.R_drewN | apply Kd.R_drew)); exact HO_18.out) hb); have n1_ := Aside0.mk (Kd.R_below (by (with_reducible repeat (first | apply Kd.R_alloc | apply Kd.R_drewN | apply Kd.R_drew)); exact HO412.out) hb); have n2_ := Aside0.mk (below_step (by repeat (first | (with_reducible first | exact HB.out | apply below_alloc | apply pw_below_drewN | apply below_drew1) | exact HB.out)) hb); have n3_ := Aside0.mk (hbox); have n4_ := Aside0.mk ((by rw [hg]; exact (below_size (by repeat (first | (with_reducible first | exact HB.out | apply below_alloc | apply pw_below_drewN | apply below_drew1) | exact HB.out))) : w.heap.size ≤ gb413)); have n5_ := Aside0.mk ((by rw [hg]; exact (below_size (by repeat (first | (with_reducible first | exact HB.out | apply below_alloc | apply pw_below_drewN | apply below_drew1) | exact HB.out))) : w.heap.size ≤ gb413)); clear HO_18; clear HO412; clear HB; have HO_18 := n0_; have HO412 := n1_; have HB := n2_; have BK413 := n3_; have GW413 := n4_; have GE413 := n5_; clear n0_ n1_ n2_ n3_ n4_ n5_; clear hb hbox hg; have hcz17_0 : w16.cell? ⟨gb413, 0, none⟩ = some (.string (⟨#[]⟩ : ByteArray)) := (blk_cell BK413.out 0).trans rfl; have hcz17_1 : w16.cell? ⟨gb413, 1, none⟩ = some (.string (⟨#[]⟩ : ByteArray)) := (blk_cell BK413.out 1).trans rfl; have hcz17_2 : w16.cell? ⟨gb413, 2, none⟩ = some (.int .i64 0) := (blk_cell BK413.out 2).trans rfl; have hcz17_3 : w16.cell? ⟨gb413, 3, none⟩ = some (.string (⟨#[]⟩ : ByteArray)) := (blk_cell BK413.out 3).trans rfl; have hcz17_4 : w16.cell? ⟨gb413, 4, none⟩ = some (.int .i64 0) := (blk_cell BK413.out 4).trans rfl; have hcz17_5 : w16.cell? ⟨gb413, 5, none⟩ = some (.slice none 0 0) := (blk_cell BK413.out 5).trans rfl; have hfz17_0 := blk_frozen BK413.out 0; have hfz17_1 := blk_frozen BK413.out 1; have hfz17_2 := blk_frozen BK413.out 2; have hfz17_3 := blk_frozen BK413.out 3; have hfz17_4 := blk_frozen BK413.out 4; have hfz17_5 := blk_frozen BK413.out 5; obtain ⟨Ao18, co18, eo18⟩ := Kd.R_slice HO412.out; subst eo18) | ((with_reducible refine gate_callee (f := 10) rfl ?_); refine goesL_ (some 31) rfl rfl Tryd.func10 (by kernel_rfl) rfl #[.agg #[.string t405, .string t406, .int .i64 t407, .string t408, .int .i64 t409, .slice Ao18 t410.length co18, .string (⟨#[]⟩ : ByteArray)], .int .i64 (wrap64 (a1))] rfl (by (try simp only [List.map_toArray, List.map_cons, List.map_nil]); first | done | rfl | (simp only [List.length_drop, List.length_take]; rfl)) ?_; (with_reducible refine (forward_Request.calls k1 t405 t406 t407 t408 t409 _ _ t410 (⟨#[]⟩ : ByteArray) (wrap64 (a1)) t414 t415 t416 t417 t418 t419 t422 _ ?side1 ?side2 ?side3 A13.out).mono ?_); (case side1 => refine (Kd.R_reads' (e := 28) (base := w.heap.size) (ok := fun k_ => True) (n := t410.length) (c := co18) ?_).2.2; exact (by (with_reducible repeat (first | apply Kd.R_alloc | apply Kd.R_drewN | apply Kd.R_drew)); exact (Kd.R_mono (Kd.R_far (p := ⟨gb413, 5, none⟩) (Kd.R_far (p := ⟨gb413, 4, none⟩) (Kd.R_far (p := ⟨gb413, 3, none⟩) (Kd.R_far (p := ⟨gb413, 2, none⟩) (Kd.R_far (p := ⟨gb413, 1, none⟩) (Kd.R_far (p := ⟨gb413, 0, none⟩) (Kd.R_types HO412.out BK413.out (by decide)) (fun _ hk => hk.2) (.string t405)) (fun _ hk => hk.2) (.string t406)) (fun _ hk => hk.2) (.int .i64 t407)) (fun _ hk => hk.2) (.string t408)) (fun _ hk => hk.2) (.int .i64 t409)) (fun _ hk => hk.2) (.slice Ao18 t410.length co18)) (fun _ h_ => h_.1)))); (case side2 => exact (Kd.R_reads' HO412.out).2.1); (case side3 => exact glob_below HG_.out (by repeat (first | (with_reducible first | exact HB.out | apply below_alloc | apply pw_below_drewN | apply below_drew1 | refine below_set ?_ GE413.out) | exact HB.out))); rintro e w19 ⟨v420, rfl, ho0, hb⟩; refine ⟨_, rfl, ?_⟩; have n0_ := Aside0.mk (Kd.R_below (by (with_reducible repeat (first | apply Kd.R_alloc | apply Kd.R_drewN | apply Kd.R_drew)); exact (Kd.R_mono (Kd.R_far (p := ⟨gb413, 5, none⟩) (Kd.R_far (p := ⟨gb413, 4, none⟩) (Kd.R_far (p := ⟨gb413, 3, none⟩) (Kd.R_far (p := ⟨gb413, 2, none⟩) (Kd.R_far (p := ⟨gb413, 1, none⟩) (Kd.R_far (p := ⟨gb413, 0, none⟩) (Kd.R_types HO_18.out BK413.out (by decide)) (fun _ hk => hk.2) (.string t405)) (fun _ hk => hk.2) (.string t406)) (fun _ hk => hk.2) (.int .i64 t407)) (fun _ hk => hk.2) (.string t408)) (fun _ hk => hk.2) (.int .i64 t409)) (fun _ hk => hk.2) (.slice Ao18 t410.length co18)) (fun _ h_ => h_.1))) hb); have n1_ := Aside0.mk (Kd.R_elder' (by (with_reducible repeat (first | apply Kd.R_alloc | apply Kd.R_drewN | apply Kd.R_drew)); exact (Kd.R_mono (Kd.R_far (p := ⟨gb413, 5, none⟩) (Kd.R_far (p := ⟨gb413, 4, none⟩) (Kd.R_far (p := ⟨gb413, 3, none⟩) (Kd.R_far (p := ⟨gb413, 2, none⟩) (Kd.R_far (p := ⟨gb413, 1, none⟩) (Kd.R_far (p := ⟨gb413, 0, none⟩) (Kd.R_types HO412.out BK413.out (by decide)) (fun _ hk => hk.2) (.string t405)) (fun _ hk => hk.2) (.string t406)) (fun _ hk => hk.2) (.int .i64 t407)) (fun _ hk => hk.2) (.string t408)) (fun _ hk => hk.2) (.int .i64 t409)) (fun _ hk => hk.2) (.slice Ao18 t410.length co18)) (fun _ h_ => h_.1))) (Kd.R_base ho0) hb); have n2_ := Aside0.mk (Kd.R_lower (Kd.R_new' ho0 (Kd.R_lt (by (with_reducible repeat (first | apply Kd.R_alloc | apply Kd.R_drewN | apply Kd.R_drew)); exact (Kd.R_mono (Kd.R_far (p := ⟨gb413, 5, none⟩) (Kd.R_far (p := ⟨gb413, 4, none⟩) (Kd.R_far (p := ⟨gb413, 3, none⟩) (Kd.R_far (p := ⟨gb413, 2, none⟩) (Kd.R_far (p := ⟨gb413, 1, none⟩) (Kd.R_far (p := ⟨gb413, 0, none⟩) (Kd.R_types HO412.out BK413.out (by decide)) (fun _ hk => hk.2) (.string t405)) (fun _ hk => hk.2) (.string t406)) (fun _ hk => hk.2) (.int .i64 t407)) (fun _ hk => hk.2) (.string t408)) (fun _ hk => hk.2) (.int .i64 t409)) (fun _ hk => hk.2) (.slice Ao18 t410.length co18)) (fun _ h_ => h_.1))))) (below_size (by repeat (first | (with_reducible first | exact HB.out | apply below_alloc | apply pw_below_drewN | apply below_drew1 | refine below_set ?_ GE413.out) | exact HB.out)))); have n3_ := Aside0.mk (blk_below (g := gb413) (o := .cells #[.string t405, .string t406, .int .i64 t407, .string t408, .int .i64 t409, .slice Ao18 t410.length co18] 24 (0, 0)) (by (with_reducible repeat (first | refine blk_drewN ?_ _ | refine blk_drew ?_ | refine blk_alloc ?_ _)); refine blk_put (cs := #[.string t405, .string t406, .int .i64 t407, .string t408, .int .i64 t409, .slice none 0 0]) ?_ 5 _ rfl; (with_reducible repeat (first | refine blk_drewN ?_ _ | refine blk_drew ?_ | refine blk_alloc ?_ _)); refine blk_put (cs := #[.string t405, .string t406, .int .i64 t407, .string t408, .int .i64 0, .slice none 0 0]) ?_ 4 _ rfl; (with_reducible repeat (first | refine blk_drewN ?_ _ | refine blk_drew ?_ | refine blk_alloc ?_ _)); refine blk_put (cs := #[.string t405, .string t406, .int .i64 t407, .string (⟨#[]⟩ : ByteArray), .int .i64 0, .slice none 0 0]) ?_ 3 _ rfl; (with_reducible repeat (first | refine blk_drewN ?_ _ | refine blk_drew ?_ | refine blk_alloc ?_ _)); refine blk_put (cs := #[.string t405, .string t406, .int .i64 0, .string (⟨#[]⟩ : ByteArray), .int .i64 0, .slice none 0 0]) ?_ 2 _ rfl; (with_reducible repeat (first | refine blk_drewN ?_ _ | refine blk_drew ?_ | refine blk_alloc ?_ _)); refine blk_put (cs := #[.string t405, .string (⟨#[]⟩ : ByteArray), .int .i64 0, .string (⟨#[]⟩ : ByteArray), .int .i64 0, .slice none 0 0]) ?_ 1 _ rfl; (with_reducible repeat (first | refine blk_drewN ?_ _ | refine blk_drew ?_ | refine blk_alloc ?_ _)); refine blk_put (cs := #[.string (⟨#[]⟩ : ByteArray), .string (⟨#[]⟩ : ByteArray), .int .i64 0, .string (⟨#[]⟩ : ByteArray), .int .i64 0, .slice none 0 0]) ?_ 0 _ rfl; (with_reducible repeat (first | refine blk_drewN ?_ _ | refine blk_drew ?_ | refine blk_alloc ?_ _)); exact BK413.out) hb); have n4_ := Aside0.mk (below_step (by repeat (first | (with_reducible first | exact HB.out | apply below_alloc | apply pw_below_drewN | apply below_drew1 | refine below_set ?_ GE413.out) | exact HB.out)) hb); clear HO_18; clear HO412; clear BK413; clear HB; have HO_18 := n0_; have HO412 := n1_; have HO421 := n2_; have BK413 := n3_; have HB := n4_; clear n0_ n1_ n2_ n3_ n4_; (try clear hb); (try clear hb2); (try clear hk); (try clear hi); (try clear ho0)) | ((with_reducible refine gate_dst (N := 9) rfl ?_); (try (refine gate_guard (by rfl) ?_; dsimp only)); refine box_event ?hg (N := 9) ?hd (cs := #[.string (⟨#[]⟩ : ByteArray), .string (⟨#[]⟩ : ByteArray), .int .i64 0, .string (⟨#[]⟩ : ByteArray), .int .i64 0, .slice none 0 0, .string (⟨#[]⟩ : ByteArray)]) (t := 26) ?hr ?_; (case hd => rfl); (case hg => rfl); (case hr => first | (go_simp; done) | (go_simp; rfl)); intro gb423 hg w20 hbox hb; have n0_ := Aside0.mk (Kd.R_below (by (with_reducible repeat (first | apply Kd.R_alloc | apply Kd.R_drewN | apply Kd.R_drew)); exact HO_18.out) hb); have n1_ := Aside0.mk (Kd.R_below (by (with_reducible repeat (first | apply Kd.R_alloc | apply Kd.R_drewN | apply Kd.R_drew)); exact HO412.out) hb); have n2_ := Aside0.mk (Kd.R_below (by (with_reducible repeat (first | apply Kd.R_alloc | apply Kd.R_drewN | apply Kd.R_drew)); exact HO421.out) hb); have n3_ := Aside0.mk (blk_below (g := gb413) (o := .cells #[.string t405, .string t406, .int .i64 t407, .string t408, .int .i64 t409, .slice Ao18 t410.length co18] 24 (0, 0)) (by (with_reducible repeat (first | refine blk_drewN ?_ _ | refine blk_drew ?_ | refine blk_alloc ?_ _)); exact BK413.out) hb); have n4_ := Aside0.mk (below_step (by repeat (first | (with_reducible first | exact HB.out | apply below_alloc | apply pw_below_drewN | apply below_drew1 | refine below_set ?_ GE413.out) | exact HB.out)) hb); have n5_ := Aside0.mk (hbox); have n6_ := Aside0.mk ((by rw [hg]; exact (below_size (by repeat (first | (with_reducible first | exact HB.out | apply below_alloc | apply pw_below_drewN | apply below_drew1 | refine below_set ?_ GE413.out) | exact HB.out))) : w.heap.size ≤ gb423)); have n7_ := Aside0.mk ((by rw [hg]; exact (below_size (by repeat (first | (with_reducible first | exact HB.out | apply below_alloc | apply pw_below_drewN | apply below_drew1 | refine below_set ?_ GE413.out) | exact HB.out))) : w.heap.size ≤ gb423)); have n8_ := Aside0.mk ((by rw [hg]; exact Nat.ne_of_lt (blk_lt (g := gb413) (o := .cells #[.string t405, .string t406, .int .i64 t407, .string t408, .int .i64 t409, .slice Ao18 t410.length co18] 24 (0, 0)) (by (with_reducible repeat (first | refine blk_drewN ?_ _ | refine blk_drew ?_ | refine blk_alloc ?_ _)); exact BK413.out)) : gb413 ≠ gb423)); have n9_ := Aside0.mk ((by rw [hg]; exact Nat.ne_of_gt (blk_lt (g := gb413) (o := .cells #[.string t405, .string t406, .int .i64 t407, .string t408, .int .i64 t409, .slice Ao18 t410.length co18] 24 (0, 0)) (by (with_reducible repeat (first | refine blk_drewN ?_ _ | refine blk_drew ?_ | refine blk_alloc ?_ _)); exact BK413.out)) : gb423 ≠ gb413)); clear HO_18; clear HO412; clear HO421; clear BK413; clear HB; have HO_18 := n0_; have HO412 := n1_; have HO421 := n2_; have BK413 := n3_; have HB := n4_; have BK423 := n5_; have GW423 := n6_; have GE423 := n7_; have NB413_423 := n8_; have NB423_413 := n9_; clear n0_ n1_ n2_ n3_ n4_ n5_ n6_ n7_ n8_ n9_; clear hb hbox hg; have hnb21 := NB423_413.out; have hnc21 := NB413_423.out; have hcz22_0 : w20.cell? ⟨gb423, 0, none⟩ = some (.string (⟨#[]⟩ : ByteArray)) := (blk_cell BK423.out 0).trans rfl; have hcz22_1 : w20.cell? ⟨gb423, 1, none⟩ = some (.string (⟨#[]⟩ : ByteArray)) := (blk_cell BK423.out 1).trans rfl; have hcz22_2 : w20.cell? ⟨gb423, 2, none⟩ = some (.int .i64 0) := (blk_cell BK423.out 2).trans rfl; have hcz22_3 : w20.cell? ⟨gb423, 3, none⟩ = some (.string (⟨#[]⟩ : ByteArray)) := (blk_cell BK423.out 3).trans rfl; have hcz22_4 : w20.cell? ⟨gb423, 4, none⟩ = some (.int .i64 0) := (blk_cell BK423.out 4).trans rfl; have hcz22_5 : w20.cell? ⟨gb423, 5, none⟩ = some (.slice none 0 0) := (blk_cell BK423.out 5).trans rfl; have hcz22_6 : w20.cell? ⟨gb423, 6, none⟩ = some (.string (⟨#[]⟩ : ByteArray)) := (blk_cell BK423.out 6).trans rfl; have hfz22_0 := blk_frozen BK423.out 0; have hfz22_1 := blk_frozen BK423.out 1; have hfz22_2 := blk_frozen BK423.out 2; have hfz22_3 := blk_frozen BK423.out 3; have hfz22_4 := blk_frozen BK423.out 4; have hfz22_5 := blk_frozen BK423.out 5; have hfz22_6 := blk_frozen BK423.out 6; obtain ⟨Ao23, co23, eo23⟩ := Kd.R_slice HO421.out; subst eo23))
              (try simp only [Act.put, List.setIfInBounds_toArray, List.set_cons_zero, List.set_cons_succ])
              go_cut [] (fun wc => ∃ (kq : Nat) (x424000_13 : ByteArray) (x424001_13 : ByteArray) (x424002_13 : Int) (x424003_13 : ByteArray) (x424004_13 : Int) (x424005_13 : List (S28)) (x424006_13 : ByteArray) (u424005 : Value), Aside0 (lockagelaw15_ForwardHops.j1 kq l0 a1 true bz y401 (y401.length : Int) x20_1 t405 t406 t407 t408 t409 t410 x424000_13 x424001_13 x424002_13 x424003_13 x424004_13 x424005_13 x424006_13 = some r) ∧ Aside0 (kq ≤ k1) ∧ Aside0 (Kd.R Kd.bool 4 wc w.heap.size (fun _ => True) (.slice (some ad404) y401.length co8) y401) ∧ Aside0 (Kd.R k28 28 wc w.heap.size (fun k_ => some k_ ≠ (u424005 : Value).ownBlock) (.slice Ao18 t410.length co18) t410) ∧ Aside0 (Kd.R k28 28 wc w.heap.size (fun k_ => some k_ ≠ ((.slice Ao18 t410.length co18) : Value).ownBlock) u424005 x424005_13) ∧ Aside0 (wc.heap[gb413]? = some (.cells #[.string t405, .string t406, .int .i64 t407, .string t408, .int .i64 t409, (.slice Ao18 t410.length co18)] 24 (0, 0))) ∧ Aside0 (wc.heap[gb423]? = some (.cells #[.string x424000_13, .string x424001_13, .int .i64 x424002_13, .string x424003_13, .int .i64 x424004_13, u424005, .string x424006_13] 26 (0, 0))) ∧ Aside0 (Below w.heap.size w wc))
              case first =>
                have H := HC14.out
                clear HC14
                replace H : (if bz = true then ((forward_Answer.f k1 t405 t406 t407 t408 t409 t410 (⟨#[]⟩ : ByteArray)).bind fun bt424 => (lockagelaw15_ForwardHops.j1 k1 l0 a1 true bz y401 (y401.length : Int) x20_1 t405 t406 t407 t408 t409 t410 bt424.1 bt424.2.1 bt424.2.2.1 bt424.2.2.2.1 bt424.2.2.2.2.1 bt424.2.2.2.2.2.1 bt424.2.2.2.2.2.2)) else (lockagelaw15_ForwardHops.j1 k1 l0 a1 true bz y401 (y401.length : Int) x20_1 t405 t406 t407 t408 t409 t410 t414 t415 t416 t417 t418 t419 t422)) = some r := H
                by_cases c25 : bz = true
                · subst c25
                  have H1 : ((forward_Answer.f k1 t405 t406 t407 t408 t409 t410 (⟨#[]⟩ : ByteArray)).bind fun bt424 => (lockagelaw15_ForwardHops.j1 k1 l0 a1 true true y401 (y401.length : Int) x20_1 t405 t406 t407 t408 t409 t410 bt424.1 bt424.2.1 bt424.2.2.1 bt424.2.2.2.1 bt424.2.2.2.2.1 bt424.2.2.2.2.2.1 bt424.2.2.2.2.2.2)) = some r := by rw [if_pos rfl] at H; exact H
                  clear H
                  have H := H1
                  clear H1
                  replace H := Option.bind_eq_some_iff.mp H
                  obtain ⟨⟨t424, t425, t426, t427, t428, t429, t432⟩, A260, H⟩ := H
                  replace H : (lockagelaw15_ForwardHops.j1 k1 l0 a1 true true y401 (y401.length : Int) x20_1 t405 t406 t407 t408 t409 t410 t424 t425 t426 t427 t428 t429 t432) = some r := H
                  have A26 := Aside0.mk A260
                  clear A260
                  have H' := Aside0.mk H
                  clear H
                  have hnb27 := NB413_423.out
                  have hnc27 := NB423_413.out
                  have hcz28_0 : w20.cell? ⟨gb413, 0, none⟩ = some (.string t405) := (blk_cell BK413.out 0).trans rfl
                  have hcz28_1 : w20.cell? ⟨gb413, 1, none⟩ = some (.string t406) := (blk_cell BK413.out 1).trans rfl
                  have hcz28_2 : w20.cell? ⟨gb413, 2, none⟩ = some (.int .i64 t407) := (blk_cell BK413.out 2).trans rfl
                  have hcz28_3 : w20.cell? ⟨gb413, 3, none⟩ = some (.string t408) := (blk_cell BK413.out 3).trans rfl
                  have hcz28_4 : w20.cell? ⟨gb413, 4, none⟩ = some (.int .i64 t409) := (blk_cell BK413.out 4).trans rfl
                  have hcz28_5 : w20.cell? ⟨gb413, 5, none⟩ = some (.slice Ao18 t410.length co18) := (blk_cell BK413.out 5).trans rfl
                  have hfz28_0 := blk_frozen BK413.out 0
                  have hfz28_1 := blk_frozen BK413.out 1
                  have hfz28_2 := blk_frozen BK413.out 2
                  have hfz28_3 := blk_frozen BK413.out 3
                  have hfz28_4 := blk_frozen BK413.out 4
                  have hfz28_5 := blk_frozen BK413.out 5
                  go_wp2_with (first | ((with_reducible refine gate_callee (f := 11) rfl ?_); refine goesL_ (some 35) rfl rfl Tryd.func11 (by kernel_rfl) rfl #[.agg #[.string t405, .string t406, .int .i64 t407, .string t408, .int .i64 t409, .slice Ao18 t410.length co18, .string (⟨#[]⟩ : ByteArray)]] rfl (by (try simp only [List.map_toArray, List.map_cons, List.map_nil]); first | done | rfl | (simp only [List.length_drop, List.length_take]; rfl)) ?_; (with_reducible refine (forward_Answer.calls k1 t405 t406 t407 t408 t409 _ _ t410 (⟨#[]⟩ : ByteArray) t424 t425 t426 t427 t428 t429 t432 _ ?side1 ?side2 ?side3 A26.out).mono ?_); (case side1 => refine (Kd.R_reads' (e := 28) (base := w.heap.size) (ok := fun k_ => (True ∧ some k_ ≠ (.slice Ao23 t419.length co23 : Value).ownBlock)) (n := t410.length) (c := co18) ?_).2.2; exact (by (with_reducible repeat (first | apply Kd.R_alloc | apply Kd.R_drewN | apply Kd.R_drew)); exact (Kd.R_mono (Kd.R_far (p := ⟨gb423, 6, none⟩) (Kd.R_far (p := ⟨gb423, 5, none⟩) (Kd.R_far (p := ⟨gb423, 4, none⟩) (Kd.R_far (p := ⟨gb423, 3, none⟩) (Kd.R_far (p := ⟨gb423, 2, none⟩) (Kd.R_far (p := ⟨gb423, 1, none⟩) (Kd.R_far (p := ⟨gb423, 0, none⟩) (Kd.R_types HO412.out BK423.out (by decide)) (fun _ hk => hk.2) (.string t414)) (fun _ hk => hk.2) (.string t415)) (fun _ hk => hk.2) (.int .i64 t416)) (fun _ hk => hk.2) (.string t417)) (fun _ hk => hk.2) (.int .i64 t418)) (fun _ hk => hk.2) (.slice Ao23 t419.length co23)) (fun _ hk => hk.2) (.string t422)) (fun _ h_ => h_.1)))); (case side2 => exact (Kd.R_reads' HO412.out).2.1); (case side3 => exact glob_below HG_.out (by repeat (first | (with_reducible first | exact HB.out | apply below_alloc | apply pw_below_drewN | apply below_drew1 | refine below_set ?_ GE413.out | refine below_set ?_ GE423.out) | exact HB.out))); rintro e w29 ⟨v430, rfl, ho0, hb⟩; refine ⟨_, rfl, ?_⟩; have n0_ := Aside0.mk (Kd.R_below (by (with_reducible repeat (first | apply Kd.R_alloc | apply Kd.R_drewN | apply Kd.R_drew)); exact (Kd.R_mono (Kd.R_far (p := ⟨gb423, 6, none⟩) (Kd.R_far (p := ⟨gb423, 5, none⟩) (Kd.R_far (p := ⟨gb423, 4, none⟩) (Kd.R_far (p := ⟨gb423, 3, none⟩) (Kd.R_far (p := ⟨gb423, 2, none⟩) (Kd.R_far (p := ⟨gb423, 1, none⟩) (Kd.R_far (p := ⟨gb423, 0, none⟩) (Kd.R_types HO_18.out BK423.out (by decide)) (fun _ hk => hk.2) (.string t414)) (fun _ hk => hk.2) (.string t415)) (fun _ hk => hk.2) (.int .i64 t416)) (fun _ hk => hk.2) (.string t417)) (fun _ hk => hk.2) (.int .i64 t418)) (fun _ hk => hk.2) (.slice Ao23 t419.length co23)) (fun _ hk => hk.2) (.string t422)) (fun _ h_ => h_.1))) hb); have n1_ := Aside0.mk (Kd.R_elder' (by (with_reducible repeat (first | apply Kd.R_alloc | apply Kd.R_drewN | apply Kd.R_drew)); exact (Kd.R_mono (Kd.R_far (p := ⟨gb423, 6, none⟩) (Kd.R_far (p := ⟨gb423, 5, none⟩) (Kd.R_far (p := ⟨gb423, 4, none⟩) (Kd.R_far (p := ⟨gb423, 3, none⟩) (Kd.R_far (p := ⟨gb423, 2, none⟩) (Kd.R_far (p := ⟨gb423, 1, none⟩) (Kd.R_far (p := ⟨gb423, 0, none⟩) (Kd.R_types HO412.out BK423.out (by decide)) (fun _ hk => hk.2) (.string t414)) (fun _ hk => hk.2) (.string t415)) (fun _ hk => hk.2) (.int .i64 t416)) (fun _ hk => hk.2) (.string t417)) (fun _ hk => hk.2) (.int .i64 t418)) (fun _ hk => hk.2) (.slice Ao23 t419.length co23)) (fun _ hk => hk.2) (.string t422)) (fun _ h_ => h_.1))) (Kd.R_base ho0) hb); have n2_ := Aside0.mk (Kd.R_elder' (by (with_reducible repeat (first | apply Kd.R_alloc | apply Kd.R_drewN | apply Kd.R_drew)); exact (Kd.R_mono (Kd.R_far (p := ⟨gb423, 6, none⟩) (Kd.R_far (p := ⟨gb423, 5, none⟩) (Kd.R_far (p := ⟨gb423, 4, none⟩) (Kd.R_far (p := ⟨gb423, 3, none⟩) (Kd.R_far (p := ⟨gb423, 2, none⟩) (Kd.R_far (p := ⟨gb423, 1, none⟩) (Kd.R_far (p := ⟨gb423, 0, none⟩) (Kd.R_types HO421.out BK423.out (by decide)) (fun _ hk => hk.2) (.string t414)) (fun _ hk => hk.2) (.string t415)) (fun _ hk => hk.2) (.int .i64 t416)) (fun _ hk => hk.2) (.string t417)) (fun _ hk => hk.2) (.int .i64 t418)) (fun _ hk => hk.2) (.slice Ao23 t419.length co23)) (fun _ hk => hk.2) (.string t422)) (fun _ h_ => h_.1))) (Kd.R_base ho0) hb); have n3_ := Aside0.mk (Kd.R_lower (Kd.R_new' (Kd.R_new' ho0 (Kd.R_lt (by (with_reducible repeat (first | apply Kd.R_alloc | apply Kd.R_drewN | apply Kd.R_drew)); exact (Kd.R_mono (Kd.R_far (p := ⟨gb423, 6, none⟩) (Kd.R_far (p := ⟨gb423, 5, none⟩) (Kd.R_far (p := ⟨gb423, 4, none⟩) (Kd.R_far (p := ⟨gb423, 3, none⟩) (Kd.R_far (p := ⟨gb423, 2, none⟩) (Kd.R_far (p := ⟨gb423, 1, none⟩) (Kd.R_far (p := ⟨gb423, 0, none⟩) (Kd.R_types HO412.out BK423.out (by decide)) (fun _ hk => hk.2) (.string t414)) (fun _ hk => hk.2) (.string t415)) (fun _ hk => hk.2) (.int .i64 t416)) (fun _ hk => hk.2) (.string t417)) (fun _ hk => hk.2) (.int .i64 t418)) (fun _ hk => hk.2) (.slice Ao23 t419.length co23)) (fun _ hk => hk.2) (.string t422)) (fun _ h_ => h_.1))))) (Kd.R_lt (by (with_reducible repeat (first | apply Kd.R_alloc | apply Kd.R_drewN | apply Kd.R_drew)); exact (Kd.R_mono (Kd.R_far (p := ⟨gb423, 6, none⟩) (Kd.R_far (p := ⟨gb423, 5, none⟩) (Kd.R_far (p := ⟨gb423, 4, none⟩) (Kd.R_far (p := ⟨gb423, 3, none⟩) (Kd.R_far (p := ⟨gb423, 2, none⟩) (Kd.R_far (p := ⟨gb423, 1, none⟩) (Kd.R_far (p := ⟨gb423, 0, none⟩) (Kd.R_types HO421.out BK423.out (by decide)) (fun _ hk => hk.2) (.string t414)) (fun _ hk => hk.2) (.string t415)) (fun _ hk => hk.2) (.int .i64 t416)) (fun _ hk => hk.2) (.string t417)) (fun _ hk => hk.2) (.int .i64 t418)) (fun _ hk => hk.2) (.slice Ao23 t419.length co23)) (fun _ hk => hk.2) (.string t422)) (fun _ h_ => h_.1))))) (below_size (by repeat (first | (with_reducible first | exact HB.out | apply below_alloc | apply pw_below_drewN | apply below_drew1 | refine below_set ?_ GE413.out | refine below_set ?_ GE423.out) | exact HB.out)))); have n4_ := Aside0.mk (blk_below (g := gb413) (o := .cells #[.string t405, .string t406, .int .i64 t407, .string t408, .int .i64 t409, .slice Ao18 t410.length co18] 24 (0, 0)) (by (with_reducible repeat (first | refine blk_drewN ?_ _ | refine blk_drew ?_ | refine blk_alloc ?_ _)); refine blk_far ?_ NB413_423.out _; (with_reducible repeat (first | refine blk_drewN ?_ _ | refine blk_drew ?_ | refine blk_alloc ?_ _)); refine blk_far ?_ NB413_423.out _; (with_reducible repeat (first | refine blk_drewN ?_ _ | refine blk_drew ?_ | refine blk_alloc ?_ _)); refine blk_far ?_ NB413_423.out _; (with_reducible repeat (first | refine blk_drewN ?_ _ | refine blk_drew ?_ | refine blk_alloc ?_ _)); refine blk_far ?_ NB413_423.out _; (with_reducible repeat (first | refine blk_drewN ?_ _ | refine blk_drew ?_ | refine blk_alloc ?_ _)); refine blk_far ?_ NB413_423.out _; (with_reducible repeat (first | refine blk_drewN ?_ _ | refine blk_drew ?_ | refine blk_alloc ?_ _)); refine blk_far ?_ NB413_423.out _; (with_reducible repeat (first | refine blk_drewN ?_ _ | refine blk_drew ?_ | refine blk_alloc ?_ _)); refine blk_far ?_ NB413_423.out _; (with_reducible repeat (first | refine blk_drewN ?_ _ | refine blk_drew ?_ | refine blk_alloc ?_ _)); exact BK413.out) hb); have n5_ := Aside0.mk (blk_below (g := gb423) (o := .cells #[.string t414, .string t415, .int .i64 t416, .string t417, .int .i64 t418, .slice Ao23 t419.length co23, .string t422] 26 (0, 0)) (by (with_reducible repeat (first | refine blk_drewN ?_ _ | refine blk_drew ?_ | refine blk_alloc ?_ _)); refine blk_put (cs := #[.string t414, .string t415, .int .i64 t416, .string t417, .int .i64 t418, .slice Ao23 t419.length co23, .string (⟨#[]⟩ : ByteArray)]) ?_ 6 _ rfl; (with_reducible repeat (first | refine blk_drewN ?_ _ | refine blk_drew ?_ | refine blk_alloc ?_ _)); refine blk_put (cs := #[.string t414, .string t415, .int .i64 t416, .string t417, .int .i64 t418, .slice none 0 0, .string (⟨#[]⟩ : ByteArray)]) ?_ 5 _ rfl; (with_reducible repeat (first | refine blk_drewN ?_ _ | refine blk_drew ?_ | refine blk_alloc ?_ _)); refine blk_put (cs := #[.string t414, .string t415, .int .i64 t416, .string t417, .int .i64 0, .slice none 0 0, .string (⟨#[]⟩ : ByteArray)]) ?_ 4 _ rfl; (with_reducible repeat (first | refine blk_drewN ?_ _ | refine blk_drew ?_ | refine blk_alloc ?_ _)); refine blk_put (cs := #[.string t414, .string t415, .int .i64 t416, .string (⟨#[]⟩ : ByteArray), .int .i64 0, .slice none 0 0, .string (⟨#[]⟩ : ByteArray)]) ?_ 3 _ rfl; (with_reducible repeat (first | refine blk_drewN ?_ _ | refine blk_drew ?_ | refine blk_alloc ?_ _)); refine blk_put (cs := #[.string t414, .string t415, .int .i64 0, .string (⟨#[]⟩ : ByteArray), .int .i64 0, .slice none 0 0, .string (⟨#[]⟩ : ByteArray)]) ?_ 2 _ rfl; (with_reducible repeat (first | refine blk_drewN ?_ _ | refine blk_drew ?_ | refine blk_alloc ?_ _)); refine blk_put (cs := #[.string t414, .string (⟨#[]⟩ : ByteArray), .int .i64 0, .string (⟨#[]⟩ : ByteArray), .int .i64 0, .slice none 0 0, .string (⟨#[]⟩ : ByteArray)]) ?_ 1 _ rfl; (with_reducible repeat (first | refine blk_drewN ?_ _ | refine blk_drew ?_ | refine blk_alloc ?_ _)); refine blk_put (cs := #[.string (⟨#[]⟩ : ByteArray), .string (⟨#[]⟩ : ByteArray), .int .i64 0, .string (⟨#[]⟩ : ByteArray), .int .i64 0, .slice none 0 0, .string (⟨#[]⟩ : ByteArray)]) ?_ 0 _ rfl; (with_reducible repeat (first | refine blk_drewN ?_ _ | refine blk_drew ?_ | refine blk_alloc ?_ _)); exact BK423.out) hb); have n6_ := Aside0.mk (below_step (by repeat (first | (with_reducible first | exact HB.out | apply below_alloc | apply pw_below_drewN | apply below_drew1 | refine below_set ?_ GE413.out | refine below_set ?_ GE423.out) | exact HB.out)) hb); clear HO_18; clear HO412; clear HO421; clear BK413; clear BK423; clear HB; have HO_18 := n0_; have HO412 := n1_; have HO421 := n2_; have HO431 := n3_; have BK413 := n4_; have BK423 := n5_; have HB := n6_; clear n0_ n1_ n2_ n3_ n4_ n5_ n6_; (try clear hb); (try clear hb2); (try clear hk); (try clear hi); (try clear ho0); have hcz30_0 : w29.cell? ⟨gb423, 0, none⟩ = some (.string t414) := (blk_cell BK423.out 0).trans rfl; have hcz30_1 : w29.cell? ⟨gb423, 1, none⟩ = some (.string t415) := (blk_cell BK423.out 1).trans rfl; have hcz30_2 : w29.cell? ⟨gb423, 2, none⟩ = some (.int .i64 t416) := (blk_cell BK423.out 2).trans rfl; have hcz30_3 : w29.cell? ⟨gb423, 3, none⟩ = some (.string t417) := (blk_cell BK423.out 3).trans rfl; have hcz30_4 : w29.cell? ⟨gb423, 4, none⟩ = some (.int .i64 t418) := (blk_cell BK423.out 4).trans rfl; have hcz30_5 : w29.cell? ⟨gb423, 5, none⟩ = some (.slice Ao23 t419.length co23) := (blk_cell BK423.out 5).trans rfl; have hcz30_6 : w29.cell? ⟨gb423, 6, none⟩ = some (.string t422) := (blk_cell BK423.out 6).trans rfl; have hfz30_0 := blk_frozen BK423.out 0; have hfz30_1 := blk_frozen BK423.out 1; have hfz30_2 := blk_frozen BK423.out 2; have hfz30_3 := blk_frozen BK423.out 3; have hfz30_4 := blk_frozen BK423.out 4; have hfz30_5 := blk_frozen BK423.out 5; have hfz30_6 := blk_frozen BK423.out 6; obtain ⟨Ao31, co31, eo31⟩ := Kd.R_slice HO431.out; subst eo31))
                  go_meet
                  case rel => exact ⟨_, (t424), (t425), (t426), (t427), (t428), (t429), (t432), (.slice Ao31 t429.length co31), H', ⟨by have := HK1.out; first | omega | exact Nat.le_refl _⟩, ⟨by (with_reducible repeat (first | apply Kd.R_alloc | apply Kd.R_drewN | apply Kd.R_drew)); exact Kd.R_mono (Kd.R_far (p := ⟨gb423, 6, none⟩) (Kd.R_far (p := ⟨gb423, 5, none⟩) (Kd.R_far (p := ⟨gb423, 4, none⟩) (Kd.R_far (p := ⟨gb423, 3, none⟩) (Kd.R_far (p := ⟨gb423, 2, none⟩) (Kd.R_far (p := ⟨gb423, 1, none⟩) (Kd.R_far (p := ⟨gb423, 0, none⟩) (Kd.R_types HO_18.out BK423.out (by decide)) (fun _ hk => hk.2) (.string t424)) (fun _ hk => hk.2) (.string t425)) (fun _ hk => hk.2) (.int .i64 t426)) (fun _ hk => hk.2) (.string t427)) (fun _ hk => hk.2) (.int .i64 t428)) (fun _ hk => hk.2) (.slice Ao31 t429.length co31)) (fun _ hk => hk.2) (.string t432)) (fun _ hk => trivial)⟩, ⟨by (with_reducible repeat (first | apply Kd.R_alloc | apply Kd.R_drewN | apply Kd.R_drew)); exact Kd.R_mono (Kd.R_far (p := ⟨gb423, 6, none⟩) (Kd.R_far (p := ⟨gb423, 5, none⟩) (Kd.R_far (p := ⟨gb423, 4, none⟩) (Kd.R_far (p := ⟨gb423, 3, none⟩) (Kd.R_far (p := ⟨gb423, 2, none⟩) (Kd.R_far (p := ⟨gb423, 1, none⟩) (Kd.R_far (p := ⟨gb423, 0, none⟩) (Kd.R_types HO412.out BK423.out (by decide)) (fun _ hk => hk.2) (.string t424)) (fun _ hk => hk.2) (.string t425)) (fun _ hk => hk.2) (.int .i64 t426)) (fun _ hk => hk.2) (.string t427)) (fun _ hk => hk.2) (.int .i64 t428)) (fun _ hk => hk.2) (.slice Ao31 t429.length co31)) (fun _ hk => hk.2) (.string t432)) (fun _ hk => hk.1.2)⟩, ⟨by (with_reducible repeat (first | apply Kd.R_alloc | apply Kd.R_drewN | apply Kd.R_drew)); exact Kd.R_mono (Kd.R_far (p := ⟨gb423, 6, none⟩) (Kd.R_far (p := ⟨gb423, 5, none⟩) (Kd.R_far (p := ⟨gb423, 4, none⟩) (Kd.R_far (p := ⟨gb423, 3, none⟩) (Kd.R_far (p := ⟨gb423, 2, none⟩) (Kd.R_far (p := ⟨gb423, 1, none⟩) (Kd.R_far (p := ⟨gb423, 0, none⟩) (Kd.R_types HO431.out BK423.out (by decide)) (fun _ hk => hk.2) (.string t424)) (fun _ hk => hk.2) (.string t425)) (fun _ hk => hk.2) (.int .i64 t426)) (fun _ hk => hk.2) (.string t427)) (fun _ hk => hk.2) (.int .i64 t428)) (fun _ hk => hk.2) (.slice Ao31 t429.length co31)) (fun _ hk => hk.2) (.string t432)) (fun _ hk => hk.1.1.2)⟩, ⟨by (with_reducible repeat (first | refine blk_drewN ?_ _ | refine blk_drew ?_ | refine blk_alloc ?_ _)); refine blk_far ?_ NB413_423.out _; (with_reducible repeat (first | refine blk_drewN ?_ _ | refine blk_drew ?_ | refine blk_alloc ?_ _)); refine blk_far ?_ NB413_423.out _; (with_reducible repeat (first | refine blk_drewN ?_ _ | refine blk_drew ?_ | refine blk_alloc ?_ _)); refine blk_far ?_ NB413_423.out _; (with_reducible repeat (first | refine blk_drewN ?_ _ | refine blk_drew ?_ | refine blk_alloc ?_ _)); refine blk_far ?_ NB413_423.out _; (with_reducible repeat (first | refine blk_drewN ?_ _ | refine blk_drew ?_ | refine blk_alloc ?_ _)); refine blk_far ?_ NB413_423.out _; (with_reducible repeat (first | refine blk_drewN ?_ _ | refine blk_drew ?_ | refine blk_alloc ?_ _)); refine blk_far ?_ NB413_423.out _; (with_reducible repeat (first | refine blk_drewN ?_ _ | refine blk_drew ?_ | refine blk_alloc ?_ _)); refine blk_far ?_ NB413_423.out _; (with_reducible repeat (first | refine blk_drewN ?_ _ | refine blk_drew ?_ | refine blk_alloc ?_ _)); exact BK413.out⟩, ⟨by (with_reducible repeat (first | refine blk_drewN ?_ _ | refine blk_drew ?_ | refine blk_alloc ?_ _)); refine blk_put (cs := #[.string t424, .string t425, .int .i64 t426, .string t427, .int .i64 t428, .slice Ao31 t429.length co31, .string t422]) ?_ 6 _ rfl; (with_reducible repeat (first | refine blk_drewN ?_ _ | refine blk_drew ?_ | refine blk_alloc ?_ _)); refine blk_put (cs := #[.string t424, .string t425, .int .i64 t426, .string t427, .int .i64 t428, .slice Ao23 t419.length co23, .string t422]) ?_ 5 _ rfl; (with_reducible repeat (first | refine blk_drewN ?_ _ | refine blk_drew ?_ | refine blk_alloc ?_ _)); refine blk_put (cs := #[.string t424, .string t425, .int .i64 t426, .string t427, .int .i64 t418, .slice Ao23 t419.length co23, .string t422]) ?_ 4 _ rfl; (with_reducible repeat (first | refine blk_drewN ?_ _ | refine blk_drew ?_ | refine blk_alloc ?_ _)); refine blk_put (cs := #[.string t424, .string t425, .int .i64 t426, .string t417, .int .i64 t418, .slice Ao23 t419.length co23, .string t422]) ?_ 3 _ rfl; (with_reducible repeat (first | refine blk_drewN ?_ _ | refine blk_drew ?_ | refine blk_alloc ?_ _)); refine blk_put (cs := #[.string t424, .string t425, .int .i64 t416, .string t417, .int .i64 t418, .slice Ao23 t419.length co23, .string t422]) ?_ 2 _ rfl; (with_reducible repeat (first | refine blk_drewN ?_ _ | refine blk_drew ?_ | refine blk_alloc ?_ _)); refine blk_put (cs := #[.string t424, .string t415, .int .i64 t416, .string t417, .int .i64 t418, .slice Ao23 t419.length co23, .string t422]) ?_ 1 _ rfl; (with_reducible repeat (first | refine blk_drewN ?_ _ | refine blk_drew ?_ | refine blk_alloc ?_ _)); refine blk_put (cs := #[.string t414, .string t415, .int .i64 t416, .string t417, .int .i64 t418, .slice Ao23 t419.length co23, .string t422]) ?_ 0 _ rfl; (with_reducible repeat (first | refine blk_drewN ?_ _ | refine blk_drew ?_ | refine blk_alloc ?_ _)); exact BK423.out⟩, ⟨by repeat (first | (with_reducible first | exact HB.out | apply below_alloc | apply pw_below_drewN | apply below_drew1 | refine below_set ?_ GE413.out | refine below_set ?_ GE423.out) | exact HB.out)⟩⟩
                · replace c25 := Bool.eq_false_iff.mpr c25
                  subst c25
                  have H1 : (lockagelaw15_ForwardHops.j1 k1 l0 a1 true false y401 (y401.length : Int) x20_1 t405 t406 t407 t408 t409 t410 t414 t415 t416 t417 t418 t419 t422) = some r := by rw [if_neg (show ¬ (false = true) by decide)] at H; exact H
                  clear H
                  have H := H1
                  clear H1
                  have H' := Aside0.mk H
                  clear H
                  go_wp2
                  go_meet
                  case rel => exact ⟨_, (t414), (t415), (t416), (t417), (t418), (t419), (t422), (.slice Ao23 t419.length co23), H', ⟨by have := HK1.out; first | omega | exact Nat.le_refl _⟩, ⟨by (with_reducible repeat (first | apply Kd.R_alloc | apply Kd.R_drewN | apply Kd.R_drew)); exact Kd.R_mono (Kd.R_far (p := ⟨gb423, 6, none⟩) (Kd.R_far (p := ⟨gb423, 5, none⟩) (Kd.R_far (p := ⟨gb423, 4, none⟩) (Kd.R_far (p := ⟨gb423, 3, none⟩) (Kd.R_far (p := ⟨gb423, 2, none⟩) (Kd.R_far (p := ⟨gb423, 1, none⟩) (Kd.R_far (p := ⟨gb423, 0, none⟩) (Kd.R_types HO_18.out BK423.out (by decide)) (fun _ hk => hk.2) (.string t414)) (fun _ hk => hk.2) (.string t415)) (fun _ hk => hk.2) (.int .i64 t416)) (fun _ hk => hk.2) (.string t417)) (fun _ hk => hk.2) (.int .i64 t418)) (fun _ hk => hk.2) (.slice Ao23 t419.length co23)) (fun _ hk => hk.2) (.string t422)) (fun _ hk => trivial)⟩, ⟨by (with_reducible repeat (first | apply Kd.R_alloc | apply Kd.R_drewN | apply Kd.R_drew)); exact Kd.R_mono (Kd.R_far (p := ⟨gb423, 6, none⟩) (Kd.R_far (p := ⟨gb423, 5, none⟩) (Kd.R_far (p := ⟨gb423, 4, none⟩) (Kd.R_far (p := ⟨gb423, 3, none⟩) (Kd.R_far (p := ⟨gb423, 2, none⟩) (Kd.R_far (p := ⟨gb423, 1, none⟩) (Kd.R_far (p := ⟨gb423, 0, none⟩) (Kd.R_types HO412.out BK423.out (by decide)) (fun _ hk => hk.2) (.string t414)) (fun _ hk => hk.2) (.string t415)) (fun _ hk => hk.2) (.int .i64 t416)) (fun _ hk => hk.2) (.string t417)) (fun _ hk => hk.2) (.int .i64 t418)) (fun _ hk => hk.2) (.slice Ao23 t419.length co23)) (fun _ hk => hk.2) (.string t422)) (fun _ hk => hk.1.2)⟩, ⟨by (with_reducible repeat (first | apply Kd.R_alloc | apply Kd.R_drewN | apply Kd.R_drew)); exact Kd.R_mono (Kd.R_far (p := ⟨gb423, 6, none⟩) (Kd.R_far (p := ⟨gb423, 5, none⟩) (Kd.R_far (p := ⟨gb423, 4, none⟩) (Kd.R_far (p := ⟨gb423, 3, none⟩) (Kd.R_far (p := ⟨gb423, 2, none⟩) (Kd.R_far (p := ⟨gb423, 1, none⟩) (Kd.R_far (p := ⟨gb423, 0, none⟩) (Kd.R_types HO421.out BK423.out (by decide)) (fun _ hk => hk.2) (.string t414)) (fun _ hk => hk.2) (.string t415)) (fun _ hk => hk.2) (.int .i64 t416)) (fun _ hk => hk.2) (.string t417)) (fun _ hk => hk.2) (.int .i64 t418)) (fun _ hk => hk.2) (.slice Ao23 t419.length co23)) (fun _ hk => hk.2) (.string t422)) (fun _ hk => hk.1.2)⟩, ⟨by (with_reducible repeat (first | refine blk_drewN ?_ _ | refine blk_drew ?_ | refine blk_alloc ?_ _)); refine blk_far ?_ NB413_423.out _; (with_reducible repeat (first | refine blk_drewN ?_ _ | refine blk_drew ?_ | refine blk_alloc ?_ _)); refine blk_far ?_ NB413_423.out _; (with_reducible repeat (first | refine blk_drewN ?_ _ | refine blk_drew ?_ | refine blk_alloc ?_ _)); refine blk_far ?_ NB413_423.out _; (with_reducible repeat (first | refine blk_drewN ?_ _ | refine blk_drew ?_ | refine blk_alloc ?_ _)); refine blk_far ?_ NB413_423.out _; (with_reducible repeat (first | refine blk_drewN ?_ _ | refine blk_drew ?_ | refine blk_alloc ?_ _)); refine blk_far ?_ NB413_423.out _; (with_reducible repeat (first | refine blk_drewN ?_ _ | refine blk_drew ?_ | refine blk_alloc ?_ _)); refine blk_far ?_ NB413_423.out _; (with_reducible repeat (first | refine blk_drewN ?_ _ | refine blk_drew ?_ | refine blk_alloc ?_ _)); refine blk_far ?_ NB413_423.out _; (with_reducible repeat (first | refine blk_drewN ?_ _ | refine blk_drew ?_ | refine blk_alloc ?_ _)); exact BK413.out⟩, ⟨by (with_reducible repeat (first | refine blk_drewN ?_ _ | refine blk_drew ?_ | refine blk_alloc ?_ _)); refine blk_put (cs := #[.string t414, .string t415, .int .i64 t416, .string t417, .int .i64 t418, .slice Ao23 t419.length co23, .string (⟨#[]⟩ : ByteArray)]) ?_ 6 _ rfl; (with_reducible repeat (first | refine blk_drewN ?_ _ | refine blk_drew ?_ | refine blk_alloc ?_ _)); refine blk_put (cs := #[.string t414, .string t415, .int .i64 t416, .string t417, .int .i64 t418, .slice none 0 0, .string (⟨#[]⟩ : ByteArray)]) ?_ 5 _ rfl; (with_reducible repeat (first | refine blk_drewN ?_ _ | refine blk_drew ?_ | refine blk_alloc ?_ _)); refine blk_put (cs := #[.string t414, .string t415, .int .i64 t416, .string t417, .int .i64 0, .slice none 0 0, .string (⟨#[]⟩ : ByteArray)]) ?_ 4 _ rfl; (with_reducible repeat (first | refine blk_drewN ?_ _ | refine blk_drew ?_ | refine blk_alloc ?_ _)); refine blk_put (cs := #[.string t414, .string t415, .int .i64 t416, .string (⟨#[]⟩ : ByteArray), .int .i64 0, .slice none 0 0, .string (⟨#[]⟩ : ByteArray)]) ?_ 3 _ rfl; (with_reducible repeat (first | refine blk_drewN ?_ _ | refine blk_drew ?_ | refine blk_alloc ?_ _)); refine blk_put (cs := #[.string t414, .string t415, .int .i64 0, .string (⟨#[]⟩ : ByteArray), .int .i64 0, .slice none 0 0, .string (⟨#[]⟩ : ByteArray)]) ?_ 2 _ rfl; (with_reducible repeat (first | refine blk_drewN ?_ _ | refine blk_drew ?_ | refine blk_alloc ?_ _)); refine blk_put (cs := #[.string t414, .string (⟨#[]⟩ : ByteArray), .int .i64 0, .string (⟨#[]⟩ : ByteArray), .int .i64 0, .slice none 0 0, .string (⟨#[]⟩ : ByteArray)]) ?_ 1 _ rfl; (with_reducible repeat (first | refine blk_drewN ?_ _ | refine blk_drew ?_ | refine blk_alloc ?_ _)); refine blk_put (cs := #[.string (⟨#[]⟩ : ByteArray), .string (⟨#[]⟩ : ByteArray), .int .i64 0, .string (⟨#[]⟩ : ByteArray), .int .i64 0, .slice none 0 0, .string (⟨#[]⟩ : ByteArray)]) ?_ 0 _ rfl; (with_reducible repeat (first | refine blk_drewN ?_ _ | refine blk_drew ?_ | refine blk_alloc ?_ _)); exact BK423.out⟩, ⟨by repeat (first | (with_reducible first | exact HB.out | apply below_alloc | apply pw_below_drewN | apply below_drew1 | refine below_set ?_ GE413.out | refine below_set ?_ GE423.out) | exact HB.out)⟩⟩
              case rest =>
                clear HC14
                try clear c1
                try clear c2
                try clear p2
                try clear q2
                try clear c4
                try clear p4
                try clear q4
                try clear hx4
                try clear c5
                try clear p6
                try clear c7
                try clear c9
                try clear c9b0
                try clear c10
                try clear c10b0
                try clear c11
                try clear c11b0
                try clear c21
                try clear q24
                try clear c25
                try clear c27
                try clear hcz17_0
                try clear hcz17_1
                try clear hcz17_2
                try clear hcz17_3
                try clear hcz17_4
                try clear hcz17_5
                try clear hcz22_0
                try clear hcz22_1
                try clear hcz22_2
                try clear hcz22_3
                try clear hcz22_4
                try clear hcz22_5
                try clear hcz22_6
                try clear hcz28_0
                try clear hcz28_1
                try clear hcz28_2
                try clear hcz28_3
                try clear hcz28_4
                try clear hcz28_5
                try clear hcz30_0
                try clear hcz30_1
                try clear hcz30_2
                try clear hcz30_3
                try clear hcz30_4
                try clear hcz30_5
                try clear hcz30_6
                try clear hfz17_0
                try clear hfz17_1
                try clear hfz17_2
                try clear hfz17_3
                try clear hfz17_4
                try clear hfz17_5
                try clear hfz22_0
                try clear hfz22_1
                try clear hfz22_2
                try clear hfz22_3
                try clear hfz22_4
                try clear hfz22_5
                try clear hfz22_6
                try clear hfz28_0
                try clear hfz28_1
                try clear hfz28_2
                try clear hfz28_3
                try clear hfz28_4
                try clear hfz28_5
                try clear hfz30_0
                try clear hfz30_1
                try clear hfz30_2
                try clear hfz30_3
                try clear hfz30_4
                try clear hfz30_5
                try clear hfz30_6
                try clear hx404_0
                try clear p2
                try clear p404
                try clear q404
                obtain ⟨kq, x424000_13, x424001_13, x424002_13, x424003_13, x424004_13, x424005_13, x424006_13, u424005, HA, HJ13, HO_18, HO_414005, HO_424005, BK413, BK423, HB⟩ := hcut
                cases kq with
                | zero => exact absurd HA.out (by simp [lockagelaw15_ForwardHops.j1])
                | succ kj13 =>
                  have H := HA.out
                  clear HA
                  simp only [lockagelaw15_ForwardHops.j1] at H
                  have HC32 := Aside0.mk H
                  clear H
                  have hnb33 := NB423_413.out
                  have hnc33 := NB413_423.out
                  have hcz34_0 : wc.cell? ⟨gb423, 0, none⟩ = some (.string x424000_13) := (blk_cell BK423.out 0).trans rfl
                  have hcz34_1 : wc.cell? ⟨gb423, 1, none⟩ = some (.string x424001_13) := (blk_cell BK423.out 1).trans rfl
                  have hcz34_2 : wc.cell? ⟨gb423, 2, none⟩ = some (.int .i64 x424002_13) := (blk_cell BK423.out 2).trans rfl
                  have hcz34_3 : wc.cell? ⟨gb423, 3, none⟩ = some (.string x424003_13) := (blk_cell BK423.out 3).trans rfl
                  have hcz34_4 : wc.cell? ⟨gb423, 4, none⟩ = some (.int .i64 x424004_13) := (blk_cell BK423.out 4).trans rfl
                  have hcz34_5 : wc.cell? ⟨gb423, 5, none⟩ = some (u424005) := (blk_cell BK423.out 5).trans rfl
                  have hcz34_6 : wc.cell? ⟨gb423, 6, none⟩ = some (.string x424006_13) := (blk_cell BK423.out 6).trans rfl
                  have hfz34_0 := blk_frozen BK423.out 0
                  have hfz34_1 := blk_frozen BK423.out 1
                  have hfz34_2 := blk_frozen BK423.out 2
                  have hfz34_3 := blk_frozen BK423.out 3
                  have hfz34_4 := blk_frozen BK423.out 4
                  have hfz34_5 := blk_frozen BK423.out 5
                  have hfz34_6 := blk_frozen BK423.out 6
                  go_upto_region 12 with (fail)
                  go_cut [48] (fun v48 wc => ∃ (kq : Nat) (x48_31 : Bool), v48 = .bool x48_31 ∧ Aside0 (lockagelaw15_ForwardHops.j2 kq l0 a1 true bz x424005_13 y401 (y401.length : Int) x20_1 x48_31 t405 t406 t407 t408 t409 t410 = some r) ∧ Aside0 (kq ≤ kj13) ∧ Aside0 (Kd.R k28 28 wc w.heap.size (fun k_ => some k_ ≠ ((.slice Ao18 t410.length co18) : Value).ownBlock) u424005 x424005_13) ∧ Aside0 (Kd.R Kd.bool 4 wc w.heap.size (fun _ => True) (.slice (some ad404) y401.length co8) y401) ∧ Aside0 (Kd.R k28 28 wc w.heap.size (fun k_ => some k_ ≠ (u424005 : Value).ownBlock ∧ some k_ ≠ (u424005 : Value).ownBlock) (.slice Ao18 t410.length co18) t410) ∧ Aside0 (Kd.R k28 28 wc w.heap.size (fun k_ => some k_ ≠ ((.slice Ao18 t410.length co18) : Value).ownBlock) u424005 x424005_13) ∧ Aside0 (wc.heap[gb413]? = some (.cells #[.string t405, .string t406, .int .i64 t407, .string t408, .int .i64 t409, (.slice Ao18 t410.length co18)] 24 (0, 0))) ∧ Aside0 (wc.heap[gb423]? = some (.cells #[.string x424000_13, .string x424001_13, .int .i64 x424002_13, .string x424003_13, .int .i64 x424004_13, u424005, .string x424006_13] 26 (0, 0))) ∧ Aside0 (Below w.heap.size w wc))
                  case first =>
                    have H := HC32.out
                    clear HC32
                    replace H := Option.bind_eq_some_iff.mp H
                    obtain ⟨t433, A350, H⟩ := H
                    replace H : (if t433 = true then (lockagelaw15_ForwardHops.j2 kj13 l0 a1 true bz x424005_13 y401 (y401.length : Int) x20_1 (decide ((x424005_13.length : Int) < 1)) t405 t406 t407 t408 t409 t410) else (lockagelaw15_ForwardHops.j2 kj13 l0 a1 true bz x424005_13 y401 (y401.length : Int) x20_1 true t405 t406 t407 t408 t409 t410)) = some r := H
                    have A35 := Aside0.mk A350
                    clear A350
                    by_cases c36 : t433 = true
                    · subst c36
                      have H1 : (lockagelaw15_ForwardHops.j2 kj13 l0 a1 true bz x424005_13 y401 (y401.length : Int) x20_1 (decide ((x424005_13.length : Int) < 1)) t405 t406 t407 t408 t409 t410) = some r := by rw [if_pos rfl] at H; exact H
                      clear H
                      have H := H1
                      clear H1
                      have H' := Aside0.mk H
                      clear H
                      have hnb37 := NB423_413.out
                      have hnc37 := NB413_423.out
                      have hcz38_0 : wc.cell? ⟨gb423, 0, none⟩ = some (.string x424000_13) := (blk_cell BK423.out 0).trans rfl
                      have hcz38_1 : wc.cell? ⟨gb423, 1, none⟩ = some (.string x424001_13) := (blk_cell BK423.out 1).trans rfl
                      have hcz38_2 : wc.cell? ⟨gb423, 2, none⟩ = some (.int .i64 x424002_13) := (blk_cell BK423.out 2).trans rfl
                      have hcz38_3 : wc.cell? ⟨gb423, 3, none⟩ = some (.string x424003_13) := (blk_cell BK423.out 3).trans rfl
                      have hcz38_4 : wc.cell? ⟨gb423, 4, none⟩ = some (.int .i64 x424004_13) := (blk_cell BK423.out 4).trans rfl
                      have hcz38_5 : wc.cell? ⟨gb423, 5, none⟩ = some (u424005) := (blk_cell BK423.out 5).trans rfl
                      have hcz38_6 : wc.cell? ⟨gb423, 6, none⟩ = some (.string x424006_13) := (blk_cell BK423.out 6).trans rfl
                      have hfz38_0 := blk_frozen BK423.out 0
                      have hfz38_1 := blk_frozen BK423.out 1
                      have hfz38_2 := blk_frozen BK423.out 2
                      have hfz38_3 := blk_frozen BK423.out 3
                      have hfz38_4 := blk_frozen BK423.out 4
                      have hfz38_5 := blk_frozen BK423.out 5
                      have hfz38_6 := blk_frozen BK423.out 6
                      obtain ⟨Ao39, co39, eo39⟩ := Kd.R_slice HO_424005.out
                      subst eo39
                      go_wp2_with (first | ((with_reducible refine gate_callee (f := 12) rfl ?_); refine goesL_ (some 42) rfl rfl Tryd.func12 (by kernel_rfl) rfl #[.agg #[.string x424000_13, .string x424001_13, .int .i64 x424002_13, .string x424003_13, .int .i64 x424004_13, .slice Ao39 x424005_13.length co39], .bool bz] rfl (by (try simp only [List.map_toArray, List.map_cons, List.map_nil]); first | done | rfl | (simp only [List.length_drop, List.length_take]; rfl)) ?_; (with_reducible refine (lockageref06_Right.calls kj13 x424000_13 x424001_13 x424002_13 x424003_13 x424004_13 _ _ x424005_13 bz true _ ?side1 ?side2 A35.out).mono ?_); (case side1 => repeat (first | exact (Kd.R_reads' HO_424005.out).2.2 | (with_reducible refine Kd.C_alloc ?_ _) | (with_reducible refine Kd.C_drewN ?_ _) | (with_reducible refine Kd.C_drew ?_))); (case side2 => exact (Kd.R_reads' HO_424005.out).2.1); rintro e w40 ⟨rfl, hb⟩; refine ⟨_, rfl, ?_⟩; have n0_ := Aside0.mk (Kd.R_below (by (with_reducible repeat (first | apply Kd.R_alloc | apply Kd.R_drewN | apply Kd.R_drew)); exact HO_18.out) hb); have n1_ := Aside0.mk (Kd.R_below (by (with_reducible repeat (first | apply Kd.R_alloc | apply Kd.R_drewN | apply Kd.R_drew)); exact HO_414005.out) hb); have n2_ := Aside0.mk (Kd.R_below (by (with_reducible repeat (first | apply Kd.R_alloc | apply Kd.R_drewN | apply Kd.R_drew)); exact HO_424005.out) hb); have n3_ := Aside0.mk (blk_below (g := gb413) (o := .cells #[.string t405, .string t406, .int .i64 t407, .string t408, .int .i64 t409, .slice Ao18 t410.length co18] 24 (0, 0)) (by (with_reducible repeat (first | refine blk_drewN ?_ _ | refine blk_drew ?_ | refine blk_alloc ?_ _)); exact BK413.out) hb); have n4_ := Aside0.mk (blk_below (g := gb423) (o := .cells #[.string x424000_13, .string x424001_13, .int .i64 x424002_13, .string x424003_13, .int .i64 x424004_13, .slice Ao39 x424005_13.length co39, .string x424006_13] 26 (0, 0)) (by (with_reducible repeat (first | refine blk_drewN ?_ _ | refine blk_drew ?_ | refine blk_alloc ?_ _)); exact BK423.out) hb); have n5_ := Aside0.mk (below_step (by repeat (first | (with_reducible first | exact HB.out | apply below_alloc | apply pw_below_drewN | apply below_drew1 | refine below_set ?_ GE413.out | refine below_set ?_ GE423.out) | exact HB.out)) hb); clear HO_18; clear HO_414005; clear HO_424005; clear BK413; clear BK423; clear HB; have HO_18 := n0_; have HO_414005 := n1_; have HO_424005 := n2_; have BK413 := n3_; have BK423 := n4_; have HB := n5_; clear n0_ n1_ n2_ n3_ n4_ n5_; (try clear hb); (try clear hb2); (try clear hk); (try clear hi)))
                      go_meet
                      case rel => exact ⟨_, (decide ((x424005_13.length : Int) < 1)), (by first | rfl | (simp; done) | (simp [*]; done)), H', ⟨by have := HK1.out; have := HJ13.out; first | omega | exact Nat.le_refl _⟩, ⟨by (with_reducible repeat (first | apply Kd.R_alloc | apply Kd.R_drewN | apply Kd.R_drew)); exact HO_424005.out⟩, ⟨by (with_reducible repeat (first | apply Kd.R_alloc | apply Kd.R_drewN | apply Kd.R_drew)); exact HO_18.out⟩, ⟨by (with_reducible repeat (first | apply Kd.R_alloc | apply Kd.R_drewN | apply Kd.R_drew)); exact Kd.R_mono HO_414005.out (fun _ hk => ⟨hk, hk⟩)⟩, ⟨by (with_reducible repeat (first | apply Kd.R_alloc | apply Kd.R_drewN | apply Kd.R_drew)); exact HO_424005.out⟩, ⟨by (with_reducible repeat (first | refine blk_drewN ?_ _ | refine blk_drew ?_ | refine blk_alloc ?_ _)); exact BK413.out⟩, ⟨by (with_reducible repeat (first | refine blk_drewN ?_ _ | refine blk_drew ?_ | refine blk_alloc ?_ _)); exact BK423.out⟩, ⟨by repeat (first | (with_reducible first | exact HB.out | apply below_alloc | apply pw_below_drewN | apply below_drew1 | refine below_set ?_ GE413.out | refine below_set ?_ GE423.out) | exact HB.out)⟩⟩
                    · replace c36 := Bool.eq_false_iff.mpr c36
                      subst c36
                      have H1 : (lockagelaw15_ForwardHops.j2 kj13 l0 a1 true bz x424005_13 y401 (y401.length : Int) x20_1 true t405 t406 t407 t408 t409 t410) = some r := by rw [if_neg (show ¬ (false = true) by decide)] at H; exact H
                      clear H
                      have H := H1
                      clear H1
                      have H' := Aside0.mk H
                      clear H
                      have hnb41 := NB423_413.out
                      have hnc41 := NB413_423.out
                      have hcz42_0 : wc.cell? ⟨gb423, 0, none⟩ = some (.string x424000_13) := (blk_cell BK423.out 0).trans rfl
                      have hcz42_1 : wc.cell? ⟨gb423, 1, none⟩ = some (.string x424001_13) := (blk_cell BK423.out 1).trans rfl
                      have hcz42_2 : wc.cell? ⟨gb423, 2, none⟩ = some (.int .i64 x424002_13) := (blk_cell BK423.out 2).trans rfl
                      have hcz42_3 : wc.cell? ⟨gb423, 3, none⟩ = some (.string x424003_13) := (blk_cell BK423.out 3).trans rfl
                      have hcz42_4 : wc.cell? ⟨gb423, 4, none⟩ = some (.int .i64 x424004_13) := (blk_cell BK423.out 4).trans rfl
                      have hcz42_5 : wc.cell? ⟨gb423, 5, none⟩ = some (u424005) := (blk_cell BK423.out 5).trans rfl
                      have hcz42_6 : wc.cell? ⟨gb423, 6, none⟩ = some (.string x424006_13) := (blk_cell BK423.out 6).trans rfl
                      have hfz42_0 := blk_frozen BK423.out 0
                      have hfz42_1 := blk_frozen BK423.out 1
                      have hfz42_2 := blk_frozen BK423.out 2
                      have hfz42_3 := blk_frozen BK423.out 3
                      have hfz42_4 := blk_frozen BK423.out 4
                      have hfz42_5 := blk_frozen BK423.out 5
                      have hfz42_6 := blk_frozen BK423.out 6
                      obtain ⟨Ao43, co43, eo43⟩ := Kd.R_slice HO_424005.out
                      subst eo43
                      go_wp2_with (first | ((with_reducible refine gate_callee (f := 12) rfl ?_); refine goesL_ (some 42) rfl rfl Tryd.func12 (by kernel_rfl) rfl #[.agg #[.string x424000_13, .string x424001_13, .int .i64 x424002_13, .string x424003_13, .int .i64 x424004_13, .slice Ao43 x424005_13.length co43], .bool bz] rfl (by (try simp only [List.map_toArray, List.map_cons, List.map_nil]); first | done | rfl | (simp only [List.length_drop, List.length_take]; rfl)) ?_; (with_reducible refine (lockageref06_Right.calls kj13 x424000_13 x424001_13 x424002_13 x424003_13 x424004_13 _ _ x424005_13 bz false _ ?side1 ?side2 A35.out).mono ?_); (case side1 => repeat (first | exact (Kd.R_reads' HO_424005.out).2.2 | (with_reducible refine Kd.C_alloc ?_ _) | (with_reducible refine Kd.C_drewN ?_ _) | (with_reducible refine Kd.C_drew ?_))); (case side2 => exact (Kd.R_reads' HO_424005.out).2.1); rintro e w44 ⟨rfl, hb⟩; refine ⟨_, rfl, ?_⟩; have n0_ := Aside0.mk (Kd.R_below (by (with_reducible repeat (first | apply Kd.R_alloc | apply Kd.R_drewN | apply Kd.R_drew)); exact HO_18.out) hb); have n1_ := Aside0.mk (Kd.R_below (by (with_reducible repeat (first | apply Kd.R_alloc | apply Kd.R_drewN | apply Kd.R_drew)); exact HO_414005.out) hb); have n2_ := Aside0.mk (Kd.R_below (by (with_reducible repeat (first | apply Kd.R_alloc | apply Kd.R_drewN | apply Kd.R_drew)); exact HO_424005.out) hb); have n3_ := Aside0.mk (blk_below (g := gb413) (o := .cells #[.string t405, .string t406, .int .i64 t407, .string t408, .int .i64 t409, .slice Ao18 t410.length co18] 24 (0, 0)) (by (with_reducible repeat (first | refine blk_drewN ?_ _ | refine blk_drew ?_ | refine blk_alloc ?_ _)); exact BK413.out) hb); have n4_ := Aside0.mk (blk_below (g := gb423) (o := .cells #[.string x424000_13, .string x424001_13, .int .i64 x424002_13, .string x424003_13, .int .i64 x424004_13, .slice Ao43 x424005_13.length co43, .string x424006_13] 26 (0, 0)) (by (with_reducible repeat (first | refine blk_drewN ?_ _ | refine blk_drew ?_ | refine blk_alloc ?_ _)); exact BK423.out) hb); have n5_ := Aside0.mk (below_step (by repeat (first | (with_reducible first | exact HB.out | apply below_alloc | apply pw_below_drewN | apply below_drew1 | refine below_set ?_ GE413.out | refine below_set ?_ GE423.out) | exact HB.out)) hb); clear HO_18; clear HO_414005; clear HO_424005; clear BK413; clear BK423; clear HB; have HO_18 := n0_; have HO_414005 := n1_; have HO_424005 := n2_; have BK413 := n3_; have BK423 := n4_; have HB := n5_; clear n0_ n1_ n2_ n3_ n4_ n5_; (try clear hb); (try clear hb2); (try clear hk); (try clear hi)))
                      go_meet
                      case rel => exact ⟨_, (true), (by first | rfl | (simp; done) | (simp [*]; done)), H', ⟨by have := HK1.out; have := HJ13.out; first | omega | exact Nat.le_refl _⟩, ⟨by (with_reducible repeat (first | apply Kd.R_alloc | apply Kd.R_drewN | apply Kd.R_drew)); exact HO_424005.out⟩, ⟨by (with_reducible repeat (first | apply Kd.R_alloc | apply Kd.R_drewN | apply Kd.R_drew)); exact HO_18.out⟩, ⟨by (with_reducible repeat (first | apply Kd.R_alloc | apply Kd.R_drewN | apply Kd.R_drew)); exact Kd.R_mono HO_414005.out (fun _ hk => ⟨hk, hk⟩)⟩, ⟨by (with_reducible repeat (first | apply Kd.R_alloc | apply Kd.R_drewN | apply Kd.R_drew)); exact HO_424005.out⟩, ⟨by (with_reducible repeat (first | refine blk_drewN ?_ _ | refine blk_drew ?_ | refine blk_alloc ?_ _)); exact BK413.out⟩, ⟨by (with_reducible repeat (first | refine blk_drewN ?_ _ | refine blk_drew ?_ | refine blk_alloc ?_ _)); exact BK423.out⟩, ⟨by repeat (first | (with_reducible first | exact HB.out | apply below_alloc | apply pw_below_drewN | apply below_drew1 | refine below_set ?_ GE413.out | refine below_set ?_ GE423.out) | exact HB.out)⟩⟩
                  case rest =>
                    clear HC32
                    try clear c1
                    try clear c2
                    try clear p2
                    try clear q2
                    try clear c3
                    try clear c4
                    try clear p4
                    try clear q4
                    try clear hx4
                    try clear c5
                    try clear p6
                    try clear c7
                    try clear c9
                    try clear c9b0
                    try clear c10
                    try clear c10b0
                    try clear c11
                    try clear c11b0
                    try clear c12
                    try clear c21
                    try clear q24
                    try clear c25
                    try clear c27
                    try clear c33
                    try clear c36
                    try clear c37
                    try clear p40
                    try clear q40
                    try clear hx40
                    try clear c41
                    try clear hcz17_0
                    try clear hcz17_1
                    try clear hcz17_2
                    try clear hcz17_3
                    try clear hcz17_4
                    try clear hcz17_5
                    try clear hcz22_0
                    try clear hcz22_1
                    try clear hcz22_2
                    try clear hcz22_3
                    try clear hcz22_4
                    try clear hcz22_5
                    try clear hcz22_6
                    try clear hcz28_0
                    try clear hcz28_1
                    try clear hcz28_2
                    try clear hcz28_3
                    try clear hcz28_4
                    try clear hcz28_5
                    try clear hcz30_0
                    try clear hcz30_1
                    try clear hcz30_2
                    try clear hcz30_3
                    try clear hcz30_4
                    try clear hcz30_5
                    try clear hcz30_6
                    try clear hcz34_0
                    try clear hcz34_1
                    try clear hcz34_2
                    try clear hcz34_3
                    try clear hcz34_4
                    try clear hcz34_5
                    try clear hcz34_6
                    try clear hcz38_0
                    try clear hcz38_1
                    try clear hcz38_2
                    try clear hcz38_3
                    try clear hcz38_4
                    try clear hcz38_5
                    try clear hcz38_6
                    try clear hcz42_0
                    try clear hcz42_1
                    try clear hcz42_2
                    try clear hcz42_3
                    try clear hcz42_4
                    try clear hcz42_5
                    try clear hcz42_6
                    try clear hfz17_0
                    try clear hfz17_1
                    try clear hfz17_2
                    try clear hfz17_3
                    try clear hfz17_4
                    try clear hfz17_5
                    try clear hfz22_0
                    try clear hfz22_1
                    try clear hfz22_2
                    try clear hfz22_3
                    try clear hfz22_4
                    try clear hfz22_5
                    try clear hfz22_6
                    try clear hfz28_0
                    try clear hfz28_1
                    try clear hfz28_2
                    try clear hfz28_3
                    try clear hfz28_4
                    try clear hfz28_5
                    try clear hfz30_0
                    try clear hfz30_1
                    try clear hfz30_2
                    try clear hfz30_3
                    try clear hfz30_4
                    try clear hfz30_5
                    try clear hfz30_6
                    try clear hfz34_0
                    try clear hfz34_1
                    try clear hfz34_2
                    try clear hfz34_3
                    try clear hfz34_4
                    try clear hfz34_5
                    try clear hfz34_6
                    try clear hfz38_0
                    try clear hfz38_1
                    try clear hfz38_2
                    try clear hfz38_3
                    try clear hfz38_4
                    try clear hfz38_5
                    try clear hfz38_6
                    try clear hfz42_0
                    try clear hfz42_1
                    try clear hfz42_2
                    try clear hfz42_3
                    try clear hfz42_4
                    try clear hfz42_5
                    try clear hfz42_6
                    try clear hx404_0
                    try clear p2
                    try clear p4
                    try clear p404
                    try clear p6
                    try clear q2
                    try clear q24
                    try clear q4
                    try clear q404
                    obtain ⟨kq, x48_31, rfl, HA, HJ31, HO_10, HO_18, HO_414005, HO_424005, BK413, BK423, HB⟩ := hcut
                    cases kq with
                    | zero => exact absurd HA.out (by simp [lockagelaw15_ForwardHops.j2])
                    | succ kj31 =>
                      have H := HA.out
                      clear HA
                      simp only [lockagelaw15_ForwardHops.j2] at H
                      by_cases c45 : x48_31 = true
                      · subst c45
                        have H1 : (none) = some r := by rw [if_pos rfl] at H; exact H
                        clear H
                        have H := H1
                        clear H1
                        exact absurd H (by simp)
                      · replace c45 := Bool.eq_false_iff.mpr c45
                        subst c45
                        have H1 : ((forward_Hops.f kj31 t410).bind fun t434 => (lockagelaw15_ForwardHops.l1 kj31 l0 a1 true bz x424005_13 t434 0 y401 (y401.length : Int) x20_1 t405 t406 t407 t408 t409 t410)) = some r := by rw [if_neg (show ¬ (false = true) by decide)] at H; exact H
                        clear H
                        have H := H1
                        clear H1
                        replace H := Option.bind_eq_some_iff.mp H
                        obtain ⟨t434, A460, H⟩ := H
                        replace H : (lockagelaw15_ForwardHops.l1 kj31 l0 a1 true bz x424005_13 t434 0 y401 (y401.length : Int) x20_1 t405 t406 t407 t408 t409 t410) = some r := H
                        have A46 := Aside0.mk A460
                        clear A460
                        have H' := Aside0.mk H
                        clear H
                        have hnb47 := NB413_423.out
                        have hnc47 := NB423_413.out
                        have hcz48_0 : wc.cell? ⟨gb413, 0, none⟩ = some (.string t405) := (blk_cell BK413.out 0).trans rfl
                        have hcz48_1 : wc.cell? ⟨gb413, 1, none⟩ = some (.string t406) := (blk_cell BK413.out 1).trans rfl
                        have hcz48_2 : wc.cell? ⟨gb413, 2, none⟩ = some (.int .i64 t407) := (blk_cell BK413.out 2).trans rfl
                        have hcz48_3 : wc.cell? ⟨gb413, 3, none⟩ = some (.string t408) := (blk_cell BK413.out 3).trans rfl
                        have hcz48_4 : wc.cell? ⟨gb413, 4, none⟩ = some (.int .i64 t409) := (blk_cell BK413.out 4).trans rfl
                        have hcz48_5 : wc.cell? ⟨gb413, 5, none⟩ = some (.slice Ao18 t410.length co18) := (blk_cell BK413.out 5).trans rfl
                        have hfz48_0 := blk_frozen BK413.out 0
                        have hfz48_1 := blk_frozen BK413.out 1
                        have hfz48_2 := blk_frozen BK413.out 2
                        have hfz48_3 := blk_frozen BK413.out 3
                        have hfz48_4 := blk_frozen BK413.out 4
                        have hfz48_5 := blk_frozen BK413.out 5
                        go_wp2_with (first | ((with_reducible refine gate_callee (f := 13) rfl ?_); refine goesL_ (some 51) rfl rfl Tryd.func13 (by kernel_rfl) rfl #[.slice Ao18 t410.length co18] rfl (by (try simp only [List.map_toArray, List.map_cons, List.map_nil]); first | done | rfl | (simp only [List.length_drop, List.length_take]; rfl)) ?_; (with_reducible refine (forward_Hops.calls kj31 _ _ t410 t434 _ ?side1 ?side2 A46.out).mono ?_); (case side1 => repeat (first | exact (Kd.R_reads' HO_414005.out).2.2 | (with_reducible refine Kd.C_alloc ?_ _) | (with_reducible refine Kd.C_drewN ?_ _) | (with_reducible refine Kd.C_drew ?_))); (case side2 => exact (Kd.R_reads' HO_414005.out).2.1); rintro e w49 ⟨v435, rfl, ho0, hb⟩; refine ⟨_, rfl, ?_⟩; have n0_ := Aside0.mk (Kd.R_below (by (with_reducible repeat (first | apply Kd.R_alloc | apply Kd.R_drewN | apply Kd.R_drew)); exact HO_10.out) hb); have n1_ := Aside0.mk (Kd.R_below (by (with_reducible repeat (first | apply Kd.R_alloc | apply Kd.R_drewN | apply Kd.R_drew)); exact HO_18.out) hb); have n2_ := Aside0.mk (Kd.R_below (by (with_reducible repeat (first | apply Kd.R_alloc | apply Kd.R_drewN | apply Kd.R_drew)); exact HO_414005.out) hb); have n3_ := Aside0.mk (Kd.R_below (by (with_reducible repeat (first | apply Kd.R_alloc | apply Kd.R_drewN | apply Kd.R_drew)); exact HO_424005.out) hb); have n4_ := Aside0.mk (Kd.R_lower ho0 (below_size (by repeat (first | (with_reducible first | exact HB.out | apply below_alloc | apply pw_below_drewN | apply below_drew1 | refine below_set ?_ GE413.out | refine below_set ?_ GE423.out) | exact HB.out)))); have n5_ := Aside0.mk (blk_below (g := gb413) (o := .cells #[.string t405, .string t406, .int .i64 t407, .string t408, .int .i64 t409, .slice Ao18 t410.length co18] 24 (0, 0)) (by (with_reducible repeat (first | refine blk_drewN ?_ _ | refine blk_drew ?_ | refine blk_alloc ?_ _)); exact BK413.out) hb); have n6_ := Aside0.mk (blk_below (g := gb423) (o := .cells #[.string x424000_13, .string x424001_13, .int .i64 x424002_13, .string x424003_13, .int .i64 x424004_13, u424005, .string x424006_13] 26 (0, 0)) (by (with_reducible repeat (first | refine blk_drewN ?_ _ | refine blk_drew ?_ | refine blk_alloc ?_ _)); exact BK423.out) hb); have n7_ := Aside0.mk (below_step (by repeat (first | (with_reducible first | exact HB.out | apply below_alloc | apply pw_below_drewN | apply below_drew1 | refine below_set ?_ GE413.out | refine below_set ?_ GE423.out) | exact HB.out)) hb); clear HO_10; clear HO_18; clear HO_414005; clear HO_424005; clear BK413; clear BK423; clear HB; have HO_10 := n0_; have HO_18 := n1_; have HO_414005 := n2_; have HO_424005 := n3_; have HO436 := n4_; have BK413 := n5_; have BK423 := n6_; have HB := n7_; clear n0_ n1_ n2_ n3_ n4_ n5_ n6_ n7_; (try clear hb); (try clear hb2); (try clear hk); (try clear hi); (try clear ho0)))
                        go_loopg [12] kj31 (fun kq v12 w' => ∃ (x12_4 : Int), v12 = .int .i64 x12_4 ∧ Aside0 (lockagelaw15_ForwardHops.l1 kq l0 a1 true bz x424005_13 t434 x12_4 y401 (y401.length : Int) x20_1 t405 t406 t407 t408 t409 t410 = some r) ∧ Aside0 (kq ≤ kj31) ∧ Aside0 (Kd.R k28 28 w' w.heap.size (fun k_ => some k_ ≠ ((.slice Ao18 t410.length co18) : Value).ownBlock) u424005 x424005_13) ∧ Aside0 (Kd.R Kd.string 9 w' w.heap.size (fun _ => True) v435 t434) ∧ Aside0 (Kd.R Kd.bool 4 w' w.heap.size (fun _ => True) (.slice (some ad404) y401.length co8) y401) ∧ Aside0 (Kd.R k28 28 w' w.heap.size (fun k_ => some k_ ≠ (u424005 : Value).ownBlock ∧ some k_ ≠ (u424005 : Value).ownBlock) (.slice Ao18 t410.length co18) t410) ∧ Aside0 (Kd.R k28 28 w' w.heap.size (fun k_ => some k_ ≠ ((.slice Ao18 t410.length co18) : Value).ownBlock) u424005 x424005_13) ∧ Aside0 (w'.heap[gb413]? = some (.cells #[.string t405, .string t406, .int .i64 t407, .string t408, .int .i64 t409, (.slice Ao18 t410.length co18)] 24 (0, 0))) ∧ Aside0 (w'.heap[gb423]? = some (.cells #[.string x424000_13, .string x424001_13, .int .i64 x424002_13, .string x424003_13, .int .i64 x424004_13, u424005, .string x424006_13] 26 (0, 0))) ∧ Aside0 (Below w.heap.size w w'))
                        case atStart => exact ⟨(0), (by first | rfl | (simp; done) | (simp [*]; done)), H', ⟨Nat.le_refl _⟩, ⟨by (with_reducible repeat (first | apply Kd.R_alloc | apply Kd.R_drewN | apply Kd.R_drew)); exact HO_10.out⟩, ⟨by (with_reducible repeat (first | apply Kd.R_alloc | apply Kd.R_drewN | apply Kd.R_drew)); exact HO436.out⟩, ⟨by (with_reducible repeat (first | apply Kd.R_alloc | apply Kd.R_drewN | apply Kd.R_drew)); exact HO_18.out⟩, ⟨by (with_reducible repeat (first | apply Kd.R_alloc | apply Kd.R_drewN | apply Kd.R_drew)); exact HO_414005.out⟩, ⟨by (with_reducible repeat (first | apply Kd.R_alloc | apply Kd.R_drewN | apply Kd.R_drew)); exact HO_424005.out⟩, ⟨by (with_reducible repeat (first | refine blk_drewN ?_ _ | refine blk_drew ?_ | refine blk_alloc ?_ _)); exact BK413.out⟩, ⟨by (with_reducible repeat (first | refine blk_drewN ?_ _ | refine blk_drew ?_ | refine blk_alloc ?_ _)); exact BK423.out⟩, ⟨by repeat (first | (with_reducible first | exact HB.out | apply below_alloc | apply pw_below_drewN | apply below_drew1 | refine below_set ?_ GE413.out | refine below_set ?_ GE423.out) | exact HB.out)⟩⟩
                        case round =>
                          clear H'
                          try clear c1
                          try clear c2
                          try clear p2
                          try clear q2
                          try clear c3
                          try clear c4
                          try clear p4
                          try clear q4
                          try clear hx4
                          try clear c5
                          try clear p6
                          try clear c7
                          try clear c9
                          try clear c9b0
                          try clear c10
                          try clear c10b0
                          try clear c11
                          try clear c11b0
                          try clear c12
                          try clear c13
                          try clear c21
                          try clear q24
                          try clear c25
                          try clear c27
                          try clear c33
                          try clear c36
                          try clear c37
                          try clear p40
                          try clear q40
                          try clear hx40
                          try clear c41
                          try clear c45
                          try clear c47
                          try clear hcz17_0
                          try clear hcz17_1
                          try clear hcz17_2
                          try clear hcz17_3
                          try clear hcz17_4
                          try clear hcz17_5
                          try clear hcz22_0
                          try clear hcz22_1
                          try clear hcz22_2
                          try clear hcz22_3
                          try clear hcz22_4
                          try clear hcz22_5
                          try clear hcz22_6
                          try clear hcz28_0
                          try clear hcz28_1
                          try clear hcz28_2
                          try clear hcz28_3
                          try clear hcz28_4
                          try clear hcz28_5
                          try clear hcz30_0
                          try clear hcz30_1
                          try clear hcz30_2
                          try clear hcz30_3
                          try clear hcz30_4
                          try clear hcz30_5
                          try clear hcz30_6
                          try clear hcz34_0
                          try clear hcz34_1
                          try clear hcz34_2
                          try clear hcz34_3
                          try clear hcz34_4
                          try clear hcz34_5
                          try clear hcz34_6
                          try clear hcz38_0
                          try clear hcz38_1
                          try clear hcz38_2
                          try clear hcz38_3
                          try clear hcz38_4
                          try clear hcz38_5
                          try clear hcz38_6
                          try clear hcz42_0
                          try clear hcz42_1
                          try clear hcz42_2
                          try clear hcz42_3
                          try clear hcz42_4
                          try clear hcz42_5
                          try clear hcz42_6
                          try clear hcz48_0
                          try clear hcz48_1
                          try clear hcz48_2
                          try clear hcz48_3
                          try clear hcz48_4
                          try clear hcz48_5
                          try clear hfz17_0
                          try clear hfz17_1
                          try clear hfz17_2
                          try clear hfz17_3
                          try clear hfz17_4
                          try clear hfz17_5
                          try clear hfz22_0
                          try clear hfz22_1
                          try clear hfz22_2
                          try clear hfz22_3
                          try clear hfz22_4
                          try clear hfz22_5
                          try clear hfz22_6
                          try clear hfz28_0
                          try clear hfz28_1
                          try clear hfz28_2
                          try clear hfz28_3
                          try clear hfz28_4
                          try clear hfz28_5
                          try clear hfz30_0
                          try clear hfz30_1
                          try clear hfz30_2
                          try clear hfz30_3
                          try clear hfz30_4
                          try clear hfz30_5
                          try clear hfz30_6
                          try clear hfz34_0
                          try clear hfz34_1
                          try clear hfz34_2
                          try clear hfz34_3
                          try clear hfz34_4
                          try clear hfz34_5
                          try clear hfz34_6
                          try clear hfz38_0
                          try clear hfz38_1
                          try clear hfz38_2
                          try clear hfz38_3
                          try clear hfz38_4
                          try clear hfz38_5
                          try clear hfz38_6
                          try clear hfz42_0
                          try clear hfz42_1
                          try clear hfz42_2
                          try clear hfz42_3
                          try clear hfz42_4
                          try clear hfz42_5
                          try clear hfz42_6
                          try clear hfz48_0
                          try clear hfz48_1
                          try clear hfz48_2
                          try clear hfz48_3
                          try clear hfz48_4
                          try clear hfz48_5
                          try clear hx404_0
                          try clear p2
                          try clear p4
                          try clear p40
                          try clear p404
                          try clear p6
                          try clear q2
                          try clear q24
                          try clear q4
                          try clear q40
                          try clear q404
                          obtain ⟨x12_4, rfl, HA, HK4, HO_10, HO_11, HO_18, HO_414005, HO_424005, BK413, BK423, HB⟩ := hrel
                          cases gk with
                          | zero => exact absurd HA.out (by simp [lockagelaw15_ForwardHops.l1])
                          | succ k4 =>
                            have H := HA.out
                            clear HA
                            simp only [lockagelaw15_ForwardHops.l1] at H
                            by_cases c50 : x12_4 < (t434.length : Int)
                            · rw [if_pos c50] at H
                              have c50b0 : decide (x12_4 < (t434.length : Int)) = true := decide_eq_true c50
                              clear c50
                              obtain ⟨ji51, hji51⟩ : ∃ j_ : Int, (wrap64 ((x424005_13.length : Int) - 1)) = j_ := ⟨_, rfl⟩
                              replace H : (if 0 ≤ (ji51) then (if (ji51) < (x424005_13.length : Int) then ((lockageref05_Lower.f k4 ((rd_T28 x424005_13 (ji51)).f0)).bind fun t438 => (if 0 ≤ x12_4 then (if (t438.toList = (rdOf ByteArray.empty t434 x12_4).toList) then (lockagelaw15_ForwardHops.l1 k4 l0 a1 true bz x424005_13 t434 (wrap64 (x12_4 + 1)) y401 (y401.length : Int) x20_1 t405 t406 t407 t408 t409 t410) else ((lockageref05_Get.f k4 x424005_13 (rdOf ByteArray.empty t434 x12_4)).bind fun t441 => (if (t441.length : Int) > 0 then (none) else (lockagelaw15_ForwardHops.l1 k4 l0 a1 true bz x424005_13 t434 (wrap64 (x12_4 + 1)) y401 (y401.length : Int) x20_1 t405 t406 t407 t408 t409 t410)))) else (none))) else (none)) else (none)) = some r := by first | (rw [hji51] at H; exact H) | (simp only [hji51] at H ⊢; exact H)
                              have hji51w : (IntKind.i64.wrap ((x424005_13.length : Int) - 1)) = ji51 := (i64_w _).trans hji51
                              by_cases c52 : 0 ≤ (ji51)
                              · rw [if_pos c52] at H
                                have c52b0 : decide (0 ≤ (ji51)) = true := decide_eq_true c52
                                clear c52
                                by_cases c53 : (ji51) < (x424005_13.length : Int)
                                · rw [if_pos c53] at H
                                  have c53b0 : decide ((ji51) < (x424005_13.length : Int)) = true := decide_eq_true c53
                                  clear c53
                                  replace H := Option.bind_eq_some_iff.mp H
                                  obtain ⟨t438, A540, H⟩ := H
                                  replace H : (if 0 ≤ x12_4 then (if (t438.toList = (rdOf ByteArray.empty t434 x12_4).toList) then (lockagelaw15_ForwardHops.l1 k4 l0 a1 true bz x424005_13 t434 (wrap64 (x12_4 + 1)) y401 (y401.length : Int) x20_1 t405 t406 t407 t408 t409 t410) else ((lockageref05_Get.f k4 x424005_13 (rdOf ByteArray.empty t434 x12_4)).bind fun t441 => (if (t441.length : Int) > 0 then (none) else (lockagelaw15_ForwardHops.l1 k4 l0 a1 true bz x424005_13 t434 (wrap64 (x12_4 + 1)) y401 (y401.length : Int) x20_1 t405 t406 t407 t408 t409 t410)))) else (none)) = some r := H
                                  have A54 := Aside0.mk A540
                                  clear A540
                                  by_cases c55 : 0 ≤ x12_4
                                  · rw [if_pos c55] at H
                                    have c55b0 : decide (0 ≤ x12_4) = true := decide_eq_true c55
                                    clear c55
                                    by_cases c56 : (t438.toList = (rdOf ByteArray.empty t434 x12_4).toList)
                                    · rw [if_pos c56] at H
                                      have c56b0 : (t438.toList == (rdOf ByteArray.empty t434 x12_4).toList) = true := beq_iff_eq.mpr c56
                                      have c56b1 : (t438.toList != (rdOf ByteArray.empty t434 x12_4).toList) = false := bne_eq_false_iff_eq.mpr c56
                                      clear c56
                                      have H' := Aside0.mk H
                                      clear H
                                      obtain ⟨Ao57, co57, eo57⟩ := Kd.R_slice HO_11.out
                                      subst eo57
                                      try go_wp2
                                      have n0_ := Aside0.mk (Kd.R_drew HO_10.out)
                                      have n1_ := Aside0.mk (Kd.R_drew HO_11.out)
                                      have n2_ := Aside0.mk (Kd.R_drew HO_18.out)
                                      have n3_ := Aside0.mk (Kd.R_drew HO_414005.out)
                                      have n4_ := Aside0.mk (Kd.R_drew HO_424005.out)
                                      have n5_ := Aside0.mk (blk_drew BK413.out)
                                      have n6_ := Aside0.mk (blk_drew BK423.out)
                                      have n7_ := Aside0.mk (below_drew1 HB.out)
                                      clear HO_10
                                      clear HO_11
                                      clear HO_18
                                      clear HO_414005
                                      clear HO_424005
                                      clear BK413
                                      clear BK423
                                      clear HB
                                      have HO_10 := n0_
                                      have HO_11 := n1_
                                      have HO_18 := n2_
                                      have HO_414005 := n3_
                                      have HO_424005 := n4_
                                      have BK413 := n5_
                                      have BK423 := n6_
                                      have HB := n7_
                                      clear n0_ n1_ n2_ n3_ n4_ n5_ n6_ n7_
                                      obtain ⟨Ao59, co59, eo59⟩ := Kd.R_slice HO_10.out
                                      (first | subst eo59 | (injection eo59 with f1_ f2_ f3_; have f4_ := f1_.symm; have f5_ := f3_.symm; clear f1_ f2_ f3_; subst f4_; subst f5_))
                                      have p437 : 0 ≤ ((ji51) : Int) := of_decide_eq_true (by first | (with_reducible assumption) | assumption)
                                      have q437 : (ji51) < (x424005_13.length : Int) := of_decide_eq_true (by first | (with_reducible assumption) | assumption)
                                      obtain ⟨ad437, e437, hx437_0, hx437_1⟩ := at_T28 (Kd.R_reads' HO_10.out).2.2 (ji51) p437 q437
                                      cases e437
                                      replace p437 := eq_true p437
                                      replace q437 := eq_true q437
                                      have p439 : 0 ≤ (x12_4 : Int) := of_decide_eq_true (by first | (with_reducible assumption) | assumption)
                                      have q439 : x12_4 < (t434.length : Int) := of_decide_eq_true (by first | (with_reducible assumption) | assumption)
                                      obtain ⟨ad439, e439, hx439_0⟩ := Kd.at_string (Kd.R_reads' HO_11.out).2.2 x12_4 p439 q439
                                      cases e439
                                      replace p439 := eq_true p439
                                      replace q439 := eq_true q439
                                      refine start_ (n := 14) (S := fun w' => w'.cell? (ad437.add (((ji51)).toNat * 2)) = some (.string ((rd_T28 x424005_13 (ji51)).f0)) ∧ w'.cell? ⟨(ad437.add (((ji51)).toNat * 2)).block, (ad437.add (((ji51)).toNat * 2)).off + 1, none⟩ = some (.string ((rd_T28 x424005_13 (ji51)).f1)) ∧ w'.cell? (ad439.add (x12_4).toNat) = some (.string (rdOf ByteArray.empty t434 x12_4))) (ds := []) #[false, false, false, false, false, false, false, false, false, false, false, false, false, false] (by kernel_rfl) rfl rfl ⟨hx437_0, hx437_1, hx439_0⟩ (fun hHeld => ?_); refine with_tabW lockagelaw15_ForwardHops.tab18 lockagelaw15_ForwardHops.bits18 (fun HT_ HW_ => ?_)
                                      generalize wr.drew = w58 at HO_10 HO_11 HO_18 HO_414005 HO_424005 BK413 BK423 HB hx437_0 hx437_1 hx439_0 hHeld ⊢
                                      refine pure_ (i := 0) (N := some 58) (v := ?_) (a' := ?_) #[true, false, false, false, false, false, false, false, false, false, false, false, false, false] rfl rfl (any_of HT_.out (by kernel_rfl)) (fun _ _ _ h => h) (Or.inl ⟨by rfl, ?_⟩) ?_ ?_
                                      rotate_left
                                      · intro w'
                                        go_simp
                                        with_reducible rfl
                                      rotate_left
                                      · simp only [Act.put, List.setIfInBounds_toArray, List.set_cons_zero, List.set_cons_succ, i64_w, i32_w]
                                        rfl
                                      refine pure_ (i := 1) (N := some 59) (v := ?_) (a' := ?_) #[true, true, false, false, false, false, false, false, false, false, false, false, false, false] rfl rfl (any_of HT_.out (by kernel_rfl)) (fun _ _ _ h => h) (Or.inl ⟨by rfl, ?_⟩) ?_ ?_
                                      rotate_left
                                      · intro w'
                                        go_simp
                                        with_reducible rfl
                                      rotate_left
                                      · simp only [Act.put, List.setIfInBounds_toArray, List.set_cons_zero, List.set_cons_succ, i64_w, i32_w]
                                        rfl
                                      refine pure_ (i := 2) (N := some 60) (v := ?_) (a' := ?_) #[true, true, true, false, false, false, false, false, false, false, false, false, false, false] rfl rfl (any_of HT_.out (by kernel_rfl)) (fun _ _ _ h => h) (Or.inl ⟨by rfl, ?_⟩) ?_ ?_
                                      rotate_left
                                      · intro w'
                                        go_simp
                                        with_reducible rfl
                                      rotate_left
                                      · simp only [Act.put, List.setIfInBounds_toArray, List.set_cons_zero, List.set_cons_succ, i64_w, i32_w]
                                        rfl
                                      refine pure_ (i := 3) (N := some 61) (v := ?_) (a' := ?_) #[true, true, true, true, false, false, false, false, false, false, false, false, false, false] rfl rfl (any_of HT_.out (by kernel_rfl)) (fun _ _ _ h => h) (Or.inl ⟨by rfl, ?_⟩) ?_ ?_
                                      rotate_left
                                      · intro w'
                                        go_simp
                                        with_reducible rfl
                                      rotate_left
                                      · simp only [Act.put, List.setIfInBounds_toArray, List.set_cons_zero, List.set_cons_succ, i64_w, i32_w]
                                        rfl
                                      refine pure_ (i := 4) (N := some 62) (v := ?_) (a' := ?_) #[true, true, true, true, true, false, false, false, false, false, false, false, false, false] rfl rfl (any_of HT_.out (by kernel_rfl)) (fun _ _ _ h => h) (Or.inl ⟨by rfl, ?_⟩) ?_ ?_
                                      rotate_left
                                      · intro w'
                                        go_simp
                                        with_reducible rfl
                                      rotate_left
                                      · simp only [Act.put, List.setIfInBounds_toArray, List.set_cons_zero, List.set_cons_succ, i64_w, i32_w]
                                        rfl
                                      refine pure_ (i := 5) (N := some 63) (v := ?_) (a' := ?_) #[true, true, true, true, true, true, false, false, false, false, false, false, false, false] rfl rfl (any_of HT_.out (by kernel_rfl)) (fun _ _ _ h => h) (Or.inl ⟨by rfl, ?_⟩) ?_ ?_
                                      rotate_left
                                      · intro w'
                                        go_simp
                                        with_reducible rfl
                                      rotate_left
                                      · simp only [Act.put, List.setIfInBounds_toArray, List.set_cons_zero, List.set_cons_succ, i64_w, i32_w]
                                        rfl
                                      refine pure_ (i := 8) (N := some 66) (v := ?_) (a' := ?_) #[true, true, true, true, true, true, false, false, true, false, false, false, false, false] rfl rfl (any_of HT_.out (by kernel_rfl)) (fun _ _ _ h => h) (Or.inl ⟨by rfl, ?_⟩) ?_ ?_
                                      rotate_left
                                      · intro w'
                                        go_simp
                                        with_reducible rfl
                                      rotate_left
                                      · simp only [Act.put, List.setIfInBounds_toArray, List.set_cons_zero, List.set_cons_succ, i64_w, i32_w]
                                        rfl
                                      refine pure_ (i := 9) (N := some 67) (v := ?_) (a' := ?_) #[true, true, true, true, true, true, false, false, true, true, false, false, false, false] rfl rfl (any_of HT_.out (by kernel_rfl)) (fun _ _ _ h => h) (Or.inl ⟨by rfl, ?_⟩) ?_ ?_
                                      rotate_left
                                      · intro w'
                                        go_simp
                                        with_reducible rfl
                                      rotate_left
                                      · simp only [Act.put, List.setIfInBounds_toArray, List.set_cons_zero, List.set_cons_succ, i64_w, i32_w]
                                        rfl
                                      refine pure_ (i := 10) (N := some 68) (v := ?_) (a' := ?_) #[true, true, true, true, true, true, false, false, true, true, true, false, false, false] rfl rfl (any_of HT_.out (by kernel_rfl)) (fun _ _ _ h => h) (Or.inl ⟨by rfl, ?_⟩) ?_ ?_
                                      rotate_left
                                      · intro w'
                                        go_simp
                                        with_reducible rfl
                                      rotate_left
                                      · simp only [Act.put, List.setIfInBounds_toArray, List.set_cons_zero, List.set_cons_succ, i64_w, i32_w]
                                        rfl
                                      refine take_ (i := 6) (N := some 64) (v := ?_) (a' := ?_) #[true, true, true, true, true, true, true, false, true, true, true, false, false, false] rfl rfl (take_ofW HT_.out HW_.out (by kernel_rfl)) (fun _ _ _ h => h) (Or.inl ⟨by rfl, ?_⟩) hHeld ?_ ?_
                                      rotate_left
                                      · rintro w' ⟨s0, s1, s2⟩
                                        go_simp
                                        with_reducible rfl
                                      rotate_left
                                      · simp only [Act.put, List.setIfInBounds_toArray, List.set_cons_zero, List.set_cons_succ, i64_w, i32_w]
                                        rfl
                                      refine take_ (i := 11) (N := some 69) (v := ?_) (a' := ?_) #[true, true, true, true, true, true, true, false, true, true, true, true, false, false] rfl rfl (take_ofW HT_.out HW_.out (by kernel_rfl)) (fun _ _ _ h => h) (Or.inl ⟨by rfl, ?_⟩) hHeld ?_ ?_
                                      rotate_left
                                      · rintro w' ⟨s0, s1, s2⟩
                                        go_simp
                                        with_reducible rfl
                                      rotate_left
                                      · simp only [Act.put, List.setIfInBounds_toArray, List.set_cons_zero, List.set_cons_succ, i64_w, i32_w]
                                        rfl
                                      refine one_ (i := 7) (N := some 65) #[true, true, true, true, true, true, true, true, true, true, true, true, false, false] rfl rfl (one_of HT_.out (by kernel_rfl)) (by decide) (fun K hK => ?_)
                                      refine goes_ Tryd.func14 (by kernel_rfl) rfl #[.string ((rd_T28 x424005_13 (ji51)).f0)] (by rfl) rfl rfl (by (try simp only [List.map_toArray, List.map_cons, List.map_nil]); first | done | (simp only [hji51]; rfl) | rfl | (simp only [List.length_drop, List.length_take]; rfl)) ?_
                                      with_reducible refine (lockageref05_Lower.calls k4 ((rd_T28 x424005_13 (ji51)).f0) t438 _ A54.out).mono ?_
                                      rintro e w60 ⟨rfl, hb⟩
                                      have HS0_ := (hb.cell (World.block_lt_of_cell? _ _ (hHeld.1))).trans (hHeld.1)
                                      have HS1_ := (hb.cell (World.block_lt_of_cell? _ _ (hHeld.2.1))).trans (hHeld.2.1)
                                      have HS2_ := (hb.cell (World.block_lt_of_cell? _ _ (hHeld.2.2))).trans (hHeld.2.2)
                                      refine ⟨_, rfl, ?_⟩
                                      have n0_ := Aside0.mk (Kd.R_below (by (with_reducible repeat (first | apply Kd.R_alloc | apply Kd.R_drewN | apply Kd.R_drew)); exact HO_10.out) hb)
                                      have n1_ := Aside0.mk (Kd.R_below (by (with_reducible repeat (first | apply Kd.R_alloc | apply Kd.R_drewN | apply Kd.R_drew)); exact HO_11.out) hb)
                                      have n2_ := Aside0.mk (Kd.R_below (by (with_reducible repeat (first | apply Kd.R_alloc | apply Kd.R_drewN | apply Kd.R_drew)); exact HO_18.out) hb)
                                      have n3_ := Aside0.mk (Kd.R_below (by (with_reducible repeat (first | apply Kd.R_alloc | apply Kd.R_drewN | apply Kd.R_drew)); exact HO_414005.out) hb)
                                      have n4_ := Aside0.mk (Kd.R_below (by (with_reducible repeat (first | apply Kd.R_alloc | apply Kd.R_drewN | apply Kd.R_drew)); exact HO_424005.out) hb)
                                      have n5_ := Aside0.mk (blk_below (g := gb413) (o := .cells #[.string t405, .string t406, .int .i64 t407, .string t408, .int .i64 t409, .slice Ao18 t410.length co18] 24 (0, 0)) (by (with_reducible repeat (first | refine blk_drewN ?_ _ | refine blk_drew ?_ | refine blk_alloc ?_ _)); exact BK413.out) hb)
                                      have n6_ := Aside0.mk (blk_below (g := gb423) (o := .cells #[.string x424000_13, .string x424001_13, .int .i64 x424002_13, .string x424003_13, .int .i64 x424004_13, .slice (some ad437) x424005_13.length co59, .string x424006_13] 26 (0, 0)) (by (with_reducible repeat (first | refine blk_drewN ?_ _ | refine blk_drew ?_ | refine blk_alloc ?_ _)); exact BK423.out) hb)
                                      have n7_ := Aside0.mk (below_step (by repeat (first | (with_reducible first | exact HB.out | apply below_alloc | apply pw_below_drewN | apply below_drew1 | refine below_set ?_ GE413.out | refine below_set ?_ GE423.out) | exact HB.out)) hb)
                                      clear HO_10
                                      clear HO_11
                                      clear HO_18
                                      clear HO_414005
                                      clear HO_424005
                                      clear BK413
                                      clear BK423
                                      clear HB
                                      have HO_10 := n0_
                                      have HO_11 := n1_
                                      have HO_18 := n2_
                                      have HO_414005 := n3_
                                      have HO_424005 := n4_
                                      have BK413 := n5_
                                      have BK423 := n6_
                                      have HB := n7_
                                      clear n0_ n1_ n2_ n3_ n4_ n5_ n6_ n7_
                                      (try clear hb)
                                      (try clear hb2)
                                      (try clear hk)
                                      (try clear hi)
                                      refine hK.out _ _ ⟨HS0_, HS1_, HS2_⟩ (fun hHeld => ?_)
                                      clear hK K
                                      refine norm_ (a' := ?_) ?_ ?_
                                      rotate_left
                                      · show Act.put _ (some 65) _ = _
                                        simp only [Act.put, List.setIfInBounds_toArray, List.set_cons_zero, List.set_cons_succ, i64_w, i32_w]
                                        rfl
                                      refine pure_ (i := 12) (N := some 70) (v := ?_) (a' := ?_) #[true, true, true, true, true, true, true, true, true, true, true, true, true, false] rfl rfl (any_of HT_.out (by kernel_rfl)) (fun _ _ _ h => h) (Or.inl ⟨by rfl, ?_⟩) ?_ ?_
                                      rotate_left
                                      · intro w'
                                        go_simp
                                        with_reducible rfl
                                      rotate_left
                                      · simp only [Act.put, List.setIfInBounds_toArray, List.set_cons_zero, List.set_cons_succ, i64_w, i32_w]
                                        rfl
                                      refine pure_ (i := 13) (N := some 13) (v := ?_) (a' := ?_) #[true, true, true, true, true, true, true, true, true, true, true, true, true, true] rfl rfl (any_of HT_.out (by kernel_rfl)) (fun _ _ _ h => h) (Or.inl ⟨by rfl, ?_⟩) ?_ ?_
                                      rotate_left
                                      · intro w'
                                        go_simp
                                        with_reducible rfl
                                      rotate_left
                                      · simp only [Act.put, List.setIfInBounds_toArray, List.set_cons_zero, List.set_cons_succ, i64_w, i32_w]
                                        rfl
                                      refine done_ (done_of HT_.out (by kernel_rfl)) ?_
                                      try go_wp2
                                      go_roundg k4
                                      case measure => have := HK1.out; have := HJ13.out; have := HJ31.out; have := HK4.out; omega
                                      case rel => exact ⟨(wrap64 (x12_4 + 1)), (by first | rfl | (simp; done) | (simp [*]; done)), H', ⟨by have := HK1.out; have := HJ13.out; have := HJ31.out; have := HK4.out; omega⟩, ⟨by (with_reducible repeat (first | apply Kd.R_alloc | apply Kd.R_drewN | apply Kd.R_drew)); exact HO_10.out⟩, ⟨by (with_reducible repeat (first | apply Kd.R_alloc | apply Kd.R_drewN | apply Kd.R_drew)); exact HO_11.out⟩, ⟨by (with_reducible repeat (first | apply Kd.R_alloc | apply Kd.R_drewN | apply Kd.R_drew)); exact HO_18.out⟩, ⟨by (with_reducible repeat (first | apply Kd.R_alloc | apply Kd.R_drewN | apply Kd.R_drew)); exact HO_414005.out⟩, ⟨by (with_reducible repeat (first | apply Kd.R_alloc | apply Kd.R_drewN | apply Kd.R_drew)); exact HO_424005.out⟩, ⟨by (with_reducible repeat (first | refine blk_drewN ?_ _ | refine blk_drew ?_ | refine blk_alloc ?_ _)); exact BK413.out⟩, ⟨by (with_reducible repeat (first | refine blk_drewN ?_ _ | refine blk_drew ?_ | refine blk_alloc ?_ _)); exact BK423.out⟩, ⟨by repeat (first | (with_reducible first | exact HB.out | apply below_alloc | apply pw_below_drewN | apply below_drew1 | refine below_set ?_ GE413.out | refine below_set ?_ GE423.out) | exact HB.out)⟩⟩
                                    · rw [if_neg c56] at H
                                      have c56b0 : (t438.toList == (rdOf ByteArray.empty t434 x12_4).toList) = false := beq_eq_false_iff_ne.mpr c56
                                      have c56b1 : (t438.toList != (rdOf ByteArray.empty t434 x12_4).toList) = true := bne_iff_ne.mpr c56
                                      replace H := Option.bind_eq_some_iff.mp H
                                      obtain ⟨t441, A610, H⟩ := H
                                      replace H : (if (t441.length : Int) > 0 then (none) else (lockagelaw15_ForwardHops.l1 k4 l0 a1 true bz x424005_13 t434 (wrap64 (x12_4 + 1)) y401 (y401.length : Int) x20_1 t405 t406 t407 t408 t409 t410)) = some r := H
                                      have A61 := Aside0.mk A610
                                      clear A610
                                      by_cases c62 : (t441.length : Int) > 0
                                      · rw [if_pos c62] at H
                                        exact absurd H (by simp)
                                      · rw [if_neg c62] at H
                                        have c62b0 : decide (0 < (t441.length : Int)) = false := decide_eq_false c62
                                        have c62b1 : decide (0 < t441.length) = false := decide_eq_false (by omega)
                                        clear c62
                                        have H' := Aside0.mk H
                                        clear H
                                        obtain ⟨Ao63, co63, eo63⟩ := Kd.R_slice HO_11.out
                                        subst eo63
                                        try go_wp2
                                        have n0_ := Aside0.mk (Kd.R_drew HO_10.out)
                                        have n1_ := Aside0.mk (Kd.R_drew HO_11.out)
                                        have n2_ := Aside0.mk (Kd.R_drew HO_18.out)
                                        have n3_ := Aside0.mk (Kd.R_drew HO_414005.out)
                                        have n4_ := Aside0.mk (Kd.R_drew HO_424005.out)
                                        have n5_ := Aside0.mk (blk_drew BK413.out)
                                        have n6_ := Aside0.mk (blk_drew BK423.out)
                                        have n7_ := Aside0.mk (below_drew1 HB.out)
                                        clear HO_10
                                        clear HO_11
                                        clear HO_18
                                        clear HO_414005
                                        clear HO_424005
                                        clear BK413
                                        clear BK423
                                        clear HB
                                        have HO_10 := n0_
                                        have HO_11 := n1_
                                        have HO_18 := n2_
                                        have HO_414005 := n3_
                                        have HO_424005 := n4_
                                        have BK413 := n5_
                                        have BK423 := n6_
                                        have HB := n7_
                                        clear n0_ n1_ n2_ n3_ n4_ n5_ n6_ n7_
                                        obtain ⟨Ao65, co65, eo65⟩ := Kd.R_slice HO_10.out
                                        (first | subst eo65 | (injection eo65 with f1_ f2_ f3_; have f4_ := f1_.symm; have f5_ := f3_.symm; clear f1_ f2_ f3_; subst f4_; subst f5_))
                                        have p437 : 0 ≤ ((ji51) : Int) := of_decide_eq_true (by first | (with_reducible assumption) | assumption)
                                        have q437 : (ji51) < (x424005_13.length : Int) := of_decide_eq_true (by first | (with_reducible assumption) | assumption)
                                        obtain ⟨ad437, e437, hx437_0, hx437_1⟩ := at_T28 (Kd.R_reads' HO_10.out).2.2 (ji51) p437 q437
                                        cases e437
                                        replace p437 := eq_true p437
                                        replace q437 := eq_true q437
                                        have p439 : 0 ≤ (x12_4 : Int) := of_decide_eq_true (by first | (with_reducible assumption) | assumption)
                                        have q439 : x12_4 < (t434.length : Int) := of_decide_eq_true (by first | (with_reducible assumption) | assumption)
                                        obtain ⟨ad439, e439, hx439_0⟩ := Kd.at_string (Kd.R_reads' HO_11.out).2.2 x12_4 p439 q439
                                        cases e439
                                        replace p439 := eq_true p439
                                        replace q439 := eq_true q439
                                        refine start_ (n := 14) (S := fun w' => w'.cell? (ad437.add (((ji51)).toNat * 2)) = some (.string ((rd_T28 x424005_13 (ji51)).f0)) ∧ w'.cell? ⟨(ad437.add (((ji51)).toNat * 2)).block, (ad437.add (((ji51)).toNat * 2)).off + 1, none⟩ = some (.string ((rd_T28 x424005_13 (ji51)).f1)) ∧ w'.cell? (ad439.add (x12_4).toNat) = some (.string (rdOf ByteArray.empty t434 x12_4))) (ds := []) #[false, false, false, false, false, false, false, false, false, false, false, false, false, false] (by kernel_rfl) rfl rfl ⟨hx437_0, hx437_1, hx439_0⟩ (fun hHeld => ?_); refine with_tabW lockagelaw15_ForwardHops.tab18 lockagelaw15_ForwardHops.bits18 (fun HT_ HW_ => ?_)
                                        generalize wr.drew = w64 at HO_10 HO_11 HO_18 HO_414005 HO_424005 BK413 BK423 HB hx437_0 hx437_1 hx439_0 hHeld ⊢
                                        refine pure_ (i := 0) (N := some 58) (v := ?_) (a' := ?_) #[true, false, false, false, false, false, false, false, false, false, false, false, false, false] rfl rfl (any_of HT_.out (by kernel_rfl)) (fun _ _ _ h => h) (Or.inl ⟨by rfl, ?_⟩) ?_ ?_
                                        rotate_left
                                        · intro w'
                                          go_simp
                                          with_reducible rfl
                                        rotate_left
                                        · simp only [Act.put, List.setIfInBounds_toArray, List.set_cons_zero, List.set_cons_succ, i64_w, i32_w]
                                          rfl
                                        refine pure_ (i := 1) (N := some 59) (v := ?_) (a' := ?_) #[true, true, false, false, false, false, false, false, false, false, false, false, false, false] rfl rfl (any_of HT_.out (by kernel_rfl)) (fun _ _ _ h => h) (Or.inl ⟨by rfl, ?_⟩) ?_ ?_
                                        rotate_left
                                        · intro w'
                                          go_simp
                                          with_reducible rfl
                                        rotate_left
                                        · simp only [Act.put, List.setIfInBounds_toArray, List.set_cons_zero, List.set_cons_succ, i64_w, i32_w]
                                          rfl
                                        refine pure_ (i := 2) (N := some 60) (v := ?_) (a' := ?_) #[true, true, true, false, false, false, false, false, false, false, false, false, false, false] rfl rfl (any_of HT_.out (by kernel_rfl)) (fun _ _ _ h => h) (Or.inl ⟨by rfl, ?_⟩) ?_ ?_
                                        rotate_left
                                        · intro w'
                                          go_simp
                                          with_reducible rfl
                                        rotate_left
                                        · simp only [Act.put, List.setIfInBounds_toArray, List.set_cons_zero, List.set_cons_succ, i64_w, i32_w]
                                          rfl
                                        refine pure_ (i := 3) (N := some 61) (v := ?_) (a' := ?_) #[true, true, true, true, false, false, false, false, false, false, false, false, false, false] rfl rfl (any_of HT_.out (by kernel_rfl)) (fun _ _ _ h => h) (Or.inl ⟨by rfl, ?_⟩) ?_ ?_
                                        rotate_left
                                        · intro w'
                                          go_simp
                                          with_reducible rfl
                                        rotate_left
                                        · simp only [Act.put, List.setIfInBounds_toArray, List.set_cons_zero, List.set_cons_succ, i64_w, i32_w]
                                          rfl
                                        refine pure_ (i := 4) (N := some 62) (v := ?_) (a' := ?_) #[true, true, true, true, true, false, false, false, false, false, false, false, false, false] rfl rfl (any_of HT_.out (by kernel_rfl)) (fun _ _ _ h => h) (Or.inl ⟨by rfl, ?_⟩) ?_ ?_
                                        rotate_left
                                        · intro w'
                                          go_simp
                                          with_reducible rfl
                                        rotate_left
                                        · simp only [Act.put, List.setIfInBounds_toArray, List.set_cons_zero, List.set_cons_succ, i64_w, i32_w]
                                          rfl
                                        refine pure_ (i := 5) (N := some 63) (v := ?_) (a' := ?_) #[true, true, true, true, true, true, false, false, false, false, false, false, false, false] rfl rfl (any_of HT_.out (by kernel_rfl)) (fun _ _ _ h => h) (Or.inl ⟨by rfl, ?_⟩) ?_ ?_
                                        rotate_left
                                        · intro w'
                                          go_simp
                                          with_reducible rfl
                                        rotate_left
                                        · simp only [Act.put, List.setIfInBounds_toArray, List.set_cons_zero, List.set_cons_succ, i64_w, i32_w]
                                          rfl
                                        refine pure_ (i := 8) (N := some 66) (v := ?_) (a' := ?_) #[true, true, true, true, true, true, false, false, true, false, false, false, false, false] rfl rfl (any_of HT_.out (by kernel_rfl)) (fun _ _ _ h => h) (Or.inl ⟨by rfl, ?_⟩) ?_ ?_
                                        rotate_left
                                        · intro w'
                                          go_simp
                                          with_reducible rfl
                                        rotate_left
                                        · simp only [Act.put, List.setIfInBounds_toArray, List.set_cons_zero, List.set_cons_succ, i64_w, i32_w]
                                          rfl
                                        refine pure_ (i := 9) (N := some 67) (v := ?_) (a' := ?_) #[true, true, true, true, true, true, false, false, true, true, false, false, false, false] rfl rfl (any_of HT_.out (by kernel_rfl)) (fun _ _ _ h => h) (Or.inl ⟨by rfl, ?_⟩) ?_ ?_
                                        rotate_left
                                        · intro w'
                                          go_simp
                                          with_reducible rfl
                                        rotate_left
                                        · simp only [Act.put, List.setIfInBounds_toArray, List.set_cons_zero, List.set_cons_succ, i64_w, i32_w]
                                          rfl
                                        refine pure_ (i := 10) (N := some 68) (v := ?_) (a' := ?_) #[true, true, true, true, true, true, false, false, true, true, true, false, false, false] rfl rfl (any_of HT_.out (by kernel_rfl)) (fun _ _ _ h => h) (Or.inl ⟨by rfl, ?_⟩) ?_ ?_
                                        rotate_left
                                        · intro w'
                                          go_simp
                                          with_reducible rfl
                                        rotate_left
                                        · simp only [Act.put, List.setIfInBounds_toArray, List.set_cons_zero, List.set_cons_succ, i64_w, i32_w]
                                          rfl
                                        refine take_ (i := 6) (N := some 64) (v := ?_) (a' := ?_) #[true, true, true, true, true, true, true, false, true, true, true, false, false, false] rfl rfl (take_ofW HT_.out HW_.out (by kernel_rfl)) (fun _ _ _ h => h) (Or.inl ⟨by rfl, ?_⟩) hHeld ?_ ?_
                                        rotate_left
                                        · rintro w' ⟨s0, s1, s2⟩
                                          go_simp
                                          with_reducible rfl
                                        rotate_left
                                        · simp only [Act.put, List.setIfInBounds_toArray, List.set_cons_zero, List.set_cons_succ, i64_w, i32_w]
                                          rfl
                                        refine take_ (i := 11) (N := some 69) (v := ?_) (a' := ?_) #[true, true, true, true, true, true, true, false, true, true, true, true, false, false] rfl rfl (take_ofW HT_.out HW_.out (by kernel_rfl)) (fun _ _ _ h => h) (Or.inl ⟨by rfl, ?_⟩) hHeld ?_ ?_
                                        rotate_left
                                        · rintro w' ⟨s0, s1, s2⟩
                                          go_simp
                                          with_reducible rfl
                                        rotate_left
                                        · simp only [Act.put, List.setIfInBounds_toArray, List.set_cons_zero, List.set_cons_succ, i64_w, i32_w]
                                          rfl
                                        refine one_ (i := 7) (N := some 65) #[true, true, true, true, true, true, true, true, true, true, true, true, false, false] rfl rfl (one_of HT_.out (by kernel_rfl)) (by decide) (fun K hK => ?_)
                                        refine goes_ Tryd.func14 (by kernel_rfl) rfl #[.string ((rd_T28 x424005_13 (ji51)).f0)] (by rfl) rfl rfl (by (try simp only [List.map_toArray, List.map_cons, List.map_nil]); first | done | (simp only [hji51]; rfl) | rfl | (simp only [List.length_drop, List.length_take]; rfl)) ?_
                                        with_reducible refine (lockageref05_Lower.calls k4 ((rd_T28 x424005_13 (ji51)).f0) t438 _ A54.out).mono ?_
                                        rintro e w66 ⟨rfl, hb⟩
                                        have HS0_ := (hb.cell (World.block_lt_of_cell? _ _ (hHeld.1))).trans (hHeld.1)
                                        have HS1_ := (hb.cell (World.block_lt_of_cell? _ _ (hHeld.2.1))).trans (hHeld.2.1)
                                        have HS2_ := (hb.cell (World.block_lt_of_cell? _ _ (hHeld.2.2))).trans (hHeld.2.2)
                                        refine ⟨_, rfl, ?_⟩
                                        have n0_ := Aside0.mk (Kd.R_below (by (with_reducible repeat (first | apply Kd.R_alloc | apply Kd.R_drewN | apply Kd.R_drew)); exact HO_10.out) hb)
                                        have n1_ := Aside0.mk (Kd.R_below (by (with_reducible repeat (first | apply Kd.R_alloc | apply Kd.R_drewN | apply Kd.R_drew)); exact HO_11.out) hb)
                                        have n2_ := Aside0.mk (Kd.R_below (by (with_reducible repeat (first | apply Kd.R_alloc | apply Kd.R_drewN | apply Kd.R_drew)); exact HO_18.out) hb)
                                        have n3_ := Aside0.mk (Kd.R_below (by (with_reducible repeat (first | apply Kd.R_alloc | apply Kd.R_drewN | apply Kd.R_drew)); exact HO_414005.out) hb)
                                        have n4_ := Aside0.mk (Kd.R_below (by (with_reducible repeat (first | apply Kd.R_alloc | apply Kd.R_drewN | apply Kd.R_drew)); exact HO_424005.out) hb)
                                        have n5_ := Aside0.mk (blk_below (g := gb413) (o := .cells #[.string t405, .string t406, .int .i64 t407, .string t408, .int .i64 t409, .slice Ao18 t410.length co18] 24 (0, 0)) (by (with_reducible repeat (first | refine blk_drewN ?_ _ | refine blk_drew ?_ | refine blk_alloc ?_ _)); exact BK413.out) hb)
                                        have n6_ := Aside0.mk (blk_below (g := gb423) (o := .cells #[.string x424000_13, .string x424001_13, .int .i64 x424002_13, .string x424003_13, .int .i64 x424004_13, .slice (some ad437) x424005_13.length co65, .string x424006_13] 26 (0, 0)) (by (with_reducible repeat (first | refine blk_drewN ?_ _ | refine blk_drew ?_ | refine blk_alloc ?_ _)); exact BK423.out) hb)
                                        have n7_ := Aside0.mk (below_step (by repeat (first | (with_reducible first | exact HB.out | apply below_alloc | apply pw_below_drewN | apply below_drew1 | refine below_set ?_ GE413.out | refine below_set ?_ GE423.out) | exact HB.out)) hb)
                                        clear HO_10
                                        clear HO_11
                                        clear HO_18
                                        clear HO_414005
                                        clear HO_424005
                                        clear BK413
                                        clear BK423
                                        clear HB
                                        have HO_10 := n0_
                                        have HO_11 := n1_
                                        have HO_18 := n2_
                                        have HO_414005 := n3_
                                        have HO_424005 := n4_
                                        have BK413 := n5_
                                        have BK423 := n6_
                                        have HB := n7_
                                        clear n0_ n1_ n2_ n3_ n4_ n5_ n6_ n7_
                                        (try clear hb)
                                        (try clear hb2)
                                        (try clear hk)
                                        (try clear hi)
                                        refine hK.out _ _ ⟨HS0_, HS1_, HS2_⟩ (fun hHeld => ?_)
                                        clear hK K
                                        refine norm_ (a' := ?_) ?_ ?_
                                        rotate_left
                                        · show Act.put _ (some 65) _ = _
                                          simp only [Act.put, List.setIfInBounds_toArray, List.set_cons_zero, List.set_cons_succ, i64_w, i32_w]
                                          rfl
                                        refine pure_ (i := 12) (N := some 70) (v := ?_) (a' := ?_) #[true, true, true, true, true, true, true, true, true, true, true, true, true, false] rfl rfl (any_of HT_.out (by kernel_rfl)) (fun _ _ _ h => h) (Or.inl ⟨by rfl, ?_⟩) ?_ ?_
                                        rotate_left
                                        · intro w'
                                          go_simp
                                          with_reducible rfl
                                        rotate_left
                                        · simp only [Act.put, List.setIfInBounds_toArray, List.set_cons_zero, List.set_cons_succ, i64_w, i32_w]
                                          rfl
                                        refine pure_ (i := 13) (N := some 13) (v := ?_) (a' := ?_) #[true, true, true, true, true, true, true, true, true, true, true, true, true, true] rfl rfl (any_of HT_.out (by kernel_rfl)) (fun _ _ _ h => h) (Or.inl ⟨by rfl, ?_⟩) ?_ ?_
                                        rotate_left
                                        · intro w'
                                          go_simp
                                          with_reducible rfl
                                        rotate_left
                                        · simp only [Act.put, List.setIfInBounds_toArray, List.set_cons_zero, List.set_cons_succ, i64_w, i32_w]
                                          rfl
                                        refine done_ (done_of HT_.out (by kernel_rfl)) ?_
                                        have p440 : 0 ≤ (x12_4 : Int) := of_decide_eq_true (by first | (with_reducible assumption) | assumption)
                                        have q440 : x12_4 < (t434.length : Int) := of_decide_eq_true (by first | (with_reducible assumption) | assumption)
                                        obtain ⟨ad440, e440, hx440_0⟩ := Kd.at_string (Kd.R_reads' HO_11.out).2.2 x12_4 p440 q440
                                        obtain rfl : ad439 = ad440 := (by injection e440)
                                        replace p440 := eq_true p440
                                        replace q440 := eq_true q440
                                        try go_wp2_with (first | (go_at_call 15; (with_reducible refine (lockageref05_Get.calls k4 _ _ x424005_13 (rdOf ByteArray.empty t434 x12_4) t441 _ ?side1 ?side2 A61.out).mono ?_); (case side1 => repeat (first | exact (Kd.R_reads' HO_10.out).2.2 | (with_reducible refine Kd.C_alloc ?_ _) | (with_reducible refine Kd.C_drewN ?_ _) | (with_reducible refine Kd.C_drew ?_))); (case side2 => exact (Kd.R_reads' HO_10.out).2.1); rintro e w67 ⟨v442, rfl, ho0, hb⟩; have n0_ := Aside0.mk (Kd.R_below (by (with_reducible repeat (first | apply Kd.R_alloc | apply Kd.R_drewN | apply Kd.R_drew)); exact HO_10.out) hb); have n1_ := Aside0.mk (Kd.R_elder' (by (with_reducible repeat (first | apply Kd.R_alloc | apply Kd.R_drewN | apply Kd.R_drew)); exact HO_11.out) (Kd.R_base ho0) hb); have n2_ := Aside0.mk (Kd.R_below (by (with_reducible repeat (first | apply Kd.R_alloc | apply Kd.R_drewN | apply Kd.R_drew)); exact HO_18.out) hb); have n3_ := Aside0.mk (Kd.R_below (by (with_reducible repeat (first | apply Kd.R_alloc | apply Kd.R_drewN | apply Kd.R_drew)); exact HO_414005.out) hb); have n4_ := Aside0.mk (Kd.R_below (by (with_reducible repeat (first | apply Kd.R_alloc | apply Kd.R_drewN | apply Kd.R_drew)); exact HO_424005.out) hb); have n5_ := Aside0.mk (Kd.R_lower (Kd.R_new' ho0 (Kd.R_lt (by (with_reducible repeat (first | apply Kd.R_alloc | apply Kd.R_drewN | apply Kd.R_drew)); exact HO_11.out))) (below_size (by repeat (first | (with_reducible first | exact HB.out | apply below_alloc | apply pw_below_drewN | apply below_drew1 | refine below_set ?_ GE413.out | refine below_set ?_ GE423.out) | exact HB.out)))); have n6_ := Aside0.mk (blk_below (g := gb413) (o := .cells #[.string t405, .string t406, .int .i64 t407, .string t408, .int .i64 t409, .slice Ao18 t410.length co18] 24 (0, 0)) (by (with_reducible repeat (first | refine blk_drewN ?_ _ | refine blk_drew ?_ | refine blk_alloc ?_ _)); exact BK413.out) hb); have n7_ := Aside0.mk (blk_below (g := gb423) (o := .cells #[.string x424000_13, .string x424001_13, .int .i64 x424002_13, .string x424003_13, .int .i64 x424004_13, .slice (some ad437) x424005_13.length co65, .string x424006_13] 26 (0, 0)) (by (with_reducible repeat (first | refine blk_drewN ?_ _ | refine blk_drew ?_ | refine blk_alloc ?_ _)); exact BK423.out) hb); have n8_ := Aside0.mk (below_step (by repeat (first | (with_reducible first | exact HB.out | apply below_alloc | apply pw_below_drewN | apply below_drew1 | refine below_set ?_ GE413.out | refine below_set ?_ GE423.out) | exact HB.out)) hb); clear HO_10; clear HO_11; clear HO_18; clear HO_414005; clear HO_424005; clear BK413; clear BK423; clear HB; have HO_10 := n0_; have HO_11 := n1_; have HO_18 := n2_; have HO_414005 := n3_; have HO_424005 := n4_; have HO443 := n5_; have BK413 := n6_; have BK423 := n7_; have HB := n8_; clear n0_ n1_ n2_ n3_ n4_ n5_ n6_ n7_ n8_; (try clear hb); (try clear hb2); (try clear hk); (try clear hi); (try clear ho0); obtain ⟨Ao68, co68, eo68⟩ := Kd.R_slice HO443.out; subst eo68))
                                        go_roundg k4
                                        case measure => have := HK1.out; have := HJ13.out; have := HJ31.out; have := HK4.out; omega
                                        case rel => exact ⟨(wrap64 (x12_4 + 1)), (by first | rfl | (simp; done) | (simp [*]; done)), H', ⟨by have := HK1.out; have := HJ13.out; have := HJ31.out; have := HK4.out; omega⟩, ⟨by (with_reducible repeat (first | apply Kd.R_alloc | apply Kd.R_drewN | apply Kd.R_drew)); exact HO_10.out⟩, ⟨by (with_reducible repeat (first | apply Kd.R_alloc | apply Kd.R_drewN | apply Kd.R_drew)); exact Kd.R_mono HO_11.out (fun _ hk => trivial)⟩, ⟨by (with_reducible repeat (first | apply Kd.R_alloc | apply Kd.R_drewN | apply Kd.R_drew)); exact HO_18.out⟩, ⟨by (with_reducible repeat (first | apply Kd.R_alloc | apply Kd.R_drewN | apply Kd.R_drew)); exact HO_414005.out⟩, ⟨by (with_reducible repeat (first | apply Kd.R_alloc | apply Kd.R_drewN | apply Kd.R_drew)); exact HO_424005.out⟩, ⟨by (with_reducible repeat (first | refine blk_drewN ?_ _ | refine blk_drew ?_ | refine blk_alloc ?_ _)); exact BK413.out⟩, ⟨by (with_reducible repeat (first | refine blk_drewN ?_ _ | refine blk_drew ?_ | refine blk_alloc ?_ _)); exact BK423.out⟩, ⟨by repeat (first | (with_reducible first | exact HB.out | apply below_alloc | apply pw_below_drewN | apply below_drew1 | refine below_set ?_ GE413.out | refine below_set ?_ GE423.out) | exact HB.out)⟩⟩
                                  · rw [if_neg c55] at H
                                    exact absurd H (by simp)
                                · rw [if_neg c53] at H
                                  exact absurd H (by simp)
                              · rw [if_neg c52] at H
                                exact absurd H (by simp)
                            · rw [if_neg c50] at H
                              have c50b0 : decide (x12_4 < (t434.length : Int)) = false := decide_eq_false c50
                              clear c50
                              by_cases c69 : ([] : List ByteArray).length + t434.length < 8796093022208
                              · rw [if_pos c69] at H
                                have LMc69 := Aside0.mk c69
                                clear c69
                                obtain ⟨y444, hy444⟩ : ∃ y_ : List ByteArray, y_ = (([] : List ByteArray) ++ t434) := ⟨_, rfl⟩
                                replace H : (if y444.length < 8796093022208 then ((some (y444 ++ [(⟨#[99, 111, 110, 116, 101, 110, 116, 45, 108, 101, 110, 103, 116, 104]⟩ : ByteArray)] : List ByteArray)).bind fun y447 => (if bz = true then (lockagelaw15_ForwardHops.j4 k4 l0 a1 true x424005_13 y447 y401 (y401.length : Int) x20_1 t405 t406 t407 t408 t409 t410) else (if y447.length < 8796093022208 then (lockagelaw15_ForwardHops.j4 k4 l0 a1 true x424005_13 (y447 ++ [(⟨#[120, 45, 102, 111, 114, 119, 97, 114, 100, 101, 100, 45, 102, 111, 114]⟩ : ByteArray)]) y401 (y401.length : Int) x20_1 t405 t406 t407 t408 t409 t410) else (none)))) else (none)) = some r := by first | (rw [hy444]; with_reducible exact H) | (have H2_ := (Option.bind_some _ _).symm.trans H; rw [hy444]; with_reducible exact H2_) | (have H2_ := (Option.bind_some _ _).symm.trans H; with_reducible exact H2_) | with_reducible exact H | (rw [hy444]; exact H) | exact H
                                have Ny444 := Aside0.mk hy444
                                clear hy444
                                by_cases c70 : y444.length < 8796093022208
                                · rw [if_pos c70] at H
                                  have LMc70 := Aside0.mk c70
                                  clear c70
                                  obtain ⟨y447, hy447⟩ : ∃ y_ : List ByteArray, y_ = (y444 ++ [(⟨#[99, 111, 110, 116, 101, 110, 116, 45, 108, 101, 110, 103, 116, 104]⟩ : ByteArray)]) := ⟨_, rfl⟩
                                  replace H : (if bz = true then (lockagelaw15_ForwardHops.j4 k4 l0 a1 true x424005_13 y447 y401 (y401.length : Int) x20_1 t405 t406 t407 t408 t409 t410) else (if y447.length < 8796093022208 then (lockagelaw15_ForwardHops.j4 k4 l0 a1 true x424005_13 (y447 ++ [(⟨#[120, 45, 102, 111, 114, 119, 97, 114, 100, 101, 100, 45, 102, 111, 114]⟩ : ByteArray)]) y401 (y401.length : Int) x20_1 t405 t406 t407 t408 t409 t410) else (none))) = some r := by first | (rw [hy447]; with_reducible exact H) | (have H2_ := (Option.bind_some _ _).symm.trans H; rw [hy447]; with_reducible exact H2_) | (have H2_ := (Option.bind_some _ _).symm.trans H; with_reducible exact H2_) | with_reducible exact H | (rw [hy447]; exact H) | exact H
                                  have Ny447 := Aside0.mk hy447
                                  clear hy447
                                  have HC71 := Aside0.mk H
                                  clear H
                                  obtain ⟨Ao72, co72, eo72⟩ := Kd.R_slice HO_11.out
                                  subst eo72
                                  go_upto_if 88 with (first | ((with_reducible refine gate_builtin (b := .append) (xs := #[.const (.slice none 0 0), .tmp 83]) rfl ?_); (try (refine gate_guard (by rfl) ?_; dsimp only)); at_builtin; refine Kd.R_append_rows Kd.string (w0 := w) w.heap.size rfl (.const (.slice none 0 0)) (.tmp 83) 38 9 (.string ⟨#[]⟩) 16 rfl Tryd.underlying38 info9 rfl (by decide) (by omega) (.slice none 0 0) ([] : List ByteArray) t434 _ _ _ (fun k_ => some k_ ≠ (.slice Ao72 t434.length co72 : Value).ownBlock) (fun _ => False) rfl rfl ?aO ?aR (fun _ _ h => h) (fun _ h => h.elim) ?aF ?aB ?aS ?aL ?_; (case aR => repeat (first | exact (Kd.R_reads' HO_11.out).2.2 | (with_reducible refine Kd.C_alloc ?_ _) | (with_reducible refine Kd.C_drewN ?_ _) | (with_reducible refine Kd.C_drew ?_))); (case aB => exact (by repeat (first | (with_reducible first | exact HB.out | apply below_alloc | apply pw_below_drewN | apply below_drew1 | refine below_set ?_ GE413.out | refine below_set ?_ GE423.out) | exact HB.out))); (case aF => exact (fun k_ hk => Kd.fresh' (Kd.R_lt (by (with_reducible repeat (first | apply Kd.R_alloc | apply Kd.R_drewN | apply Kd.R_drew)); exact HO_11.out)) k_ hk)); (case aO => exact ((Kd.R_nil _ _ _ _ (fun k_ => some k_ ≠ (.slice Ao72 t434.length co72 : Value).ownBlock)))); (case aS => exact (below_size (by repeat (first | (with_reducible first | exact HB.out | apply below_alloc | apply pw_below_drewN | apply below_drew1 | refine below_set ?_ GE413.out | refine below_set ?_ GE423.out) | exact HB.out)))); (case aL => have := LMc69.out; omega); intro v445 w73 ho hb hg hat; rw [← Ny444.out] at ho; have n0_ := Aside0.mk (Kd.R_grown (by (with_reducible repeat (first | apply Kd.R_alloc | apply Kd.R_drewN | apply Kd.R_drew)); exact HO_10.out) hg (fun _ _ => by simp [Value.ownBlock])); have n1_ := Aside0.mk (Kd.R_after (Kd.R_apart_nil (by (with_reducible repeat (first | apply Kd.R_alloc | apply Kd.R_drewN | apply Kd.R_drew)); exact HO_11.out)) hg hat); have n2_ := Aside0.mk (Kd.R_grown (by (with_reducible repeat (first | apply Kd.R_alloc | apply Kd.R_drewN | apply Kd.R_drew)); exact HO_18.out) hg (fun _ _ => by simp [Value.ownBlock])); have n3_ := Aside0.mk (Kd.R_grown (by (with_reducible repeat (first | apply Kd.R_alloc | apply Kd.R_drewN | apply Kd.R_drew)); exact HO_414005.out) hg (fun _ _ => by simp [Value.ownBlock])); have n4_ := Aside0.mk (Kd.R_grown (by (with_reducible repeat (first | apply Kd.R_alloc | apply Kd.R_drewN | apply Kd.R_drew)); exact HO_424005.out) hg (fun _ _ => by simp [Value.ownBlock])); have n5_ := Aside0.mk (blk_grown (g := gb413) (o := .cells #[.string t405, .string t406, .int .i64 t407, .string t408, .int .i64 t409, .slice Ao18 t410.length co18] 24 (0, 0)) (by (with_reducible repeat (first | refine blk_drewN ?_ _ | refine blk_drew ?_ | refine blk_alloc ?_ _)); exact BK413.out) hg (by simp [Value.ownBlock])); have n6_ := Aside0.mk (blk_grown (g := gb423) (o := .cells #[.string x424000_13, .string x424001_13, .int .i64 x424002_13, .string x424003_13, .int .i64 x424004_13, u424005, .string x424006_13] 26 (0, 0)) (by (with_reducible repeat (first | refine blk_drewN ?_ _ | refine blk_drew ?_ | refine blk_alloc ?_ _)); exact BK423.out) hg (by simp [Value.ownBlock])); have n7_ := Aside0.mk (hb); have n8_ := Aside0.mk (ho); clear HO_10; clear HO_11; clear HO_18; clear HO_414005; clear HO_424005; clear BK413; clear BK423; clear HB; have HO_10 := n0_; have HO_11 := n1_; have HO_18 := n2_; have HO_414005 := n3_; have HO_424005 := n4_; have BK413 := n5_; have BK423 := n6_; have HB := n7_; have HO446 := n8_; clear n0_ n1_ n2_ n3_ n4_ n5_ n6_ n7_ n8_; clear ho hb hg hat) | ((with_reducible refine gate_builtin (b := .append) (xs := #[.tmp 84, .tmp 85]) rfl ?_); (try (refine gate_guard (by rfl) ?_; dsimp only)); at_builtin; refine Kd.R_append Kd.string (w0 := w) w.heap.size rfl (.tmp 84) (.tmp 85) 38 9 (.string ⟨#[]⟩) 16 rfl Tryd.underlying38 info9 rfl (by decide) (by omega) v445 y444 (⟨#[99, 111, 110, 116, 101, 110, 116, 45, 108, 101, 110, 103, 116, 104]⟩ : ByteArray) [.string (⟨#[99, 111, 110, 116, 101, 110, 116, 45, 108, 101, 110, 103, 116, 104]⟩ : ByteArray)] (fun k_ => some k_ ≠ (.slice Ao72 t434.length co72 : Value).ownBlock) (fun _ => False) rfl rfl ?aP (fun _ hk => hk.elim) ?aF ?aO ?aB ?aS ?aL ?_; (case aP => exact rfl); (case aB => exact (by repeat (first | (with_reducible first | exact HB.out | apply below_alloc | apply pw_below_drewN | apply below_drew1 | refine below_set ?_ GE413.out | refine below_set ?_ GE423.out) | exact HB.out))); (case aF => exact (fun k_ hk => Kd.fresh' (Kd.R_lt (by (with_reducible repeat (first | apply Kd.R_alloc | apply Kd.R_drewN | apply Kd.R_drew)); exact HO_11.out)) k_ hk)); (case aO => exact (by (with_reducible repeat (first | apply Kd.R_alloc | apply Kd.R_drewN | apply Kd.R_drew)); exact HO446.out)); (case aS => exact (below_size (by repeat (first | (with_reducible first | exact HB.out | apply below_alloc | apply pw_below_drewN | apply below_drew1 | refine below_set ?_ GE413.out | refine below_set ?_ GE423.out) | exact HB.out)))); (case aL => have := LMc70.out; omega); intro v448 w74 ho hb hg hat; rw [← Ny447.out] at ho; have n0_ := Aside0.mk (Kd.R_over' (by (with_reducible repeat (first | apply Kd.R_alloc | apply Kd.R_drewN | apply Kd.R_drew)); exact HO_10.out) (Kd.R_typed (by (with_reducible repeat (first | apply Kd.R_alloc | apply Kd.R_drewN | apply Kd.R_drew)); exact HO446.out)) (by decide) hg); have n1_ := Aside0.mk (Kd.R_after (ok := (fun _ => True)) (by (with_reducible repeat (first | apply Kd.R_alloc | apply Kd.R_drewN | apply Kd.R_drew)); exact HO_11.out) hg hat); have n2_ := Aside0.mk (Kd.R_over' (by (with_reducible repeat (first | apply Kd.R_alloc | apply Kd.R_drewN | apply Kd.R_drew)); exact HO_18.out) (Kd.R_typed (by (with_reducible repeat (first | apply Kd.R_alloc | apply Kd.R_drewN | apply Kd.R_drew)); exact HO446.out)) (by decide) hg); have n3_ := Aside0.mk (Kd.R_over' (by (with_reducible repeat (first | apply Kd.R_alloc | apply Kd.R_drewN | apply Kd.R_drew)); exact HO_414005.out) (Kd.R_typed (by (with_reducible repeat (first | apply Kd.R_alloc | apply Kd.R_drewN | apply Kd.R_drew)); exact HO446.out)) (by decide) hg); have n4_ := Aside0.mk (Kd.R_over' (by (with_reducible repeat (first | apply Kd.R_alloc | apply Kd.R_drewN | apply Kd.R_drew)); exact HO_424005.out) (Kd.R_typed (by (with_reducible repeat (first | apply Kd.R_alloc | apply Kd.R_drewN | apply Kd.R_drew)); exact HO446.out)) (by decide) hg); have n5_ := Aside0.mk (blk_grown (g := gb413) (o := .cells #[.string t405, .string t406, .int .i64 t407, .string t408, .int .i64 t409, .slice Ao18 t410.length co18] 24 (0, 0)) (by (with_reducible repeat (first | refine blk_drewN ?_ _ | refine blk_drew ?_ | refine blk_alloc ?_ _)); exact BK413.out) hg (Kd.R_ne HO446.out BK413.out (by decide))); have n6_ := Aside0.mk (blk_grown (g := gb423) (o := .cells #[.string x424000_13, .string x424001_13, .int .i64 x424002_13, .string x424003_13, .int .i64 x424004_13, u424005, .string x424006_13] 26 (0, 0)) (by (with_reducible repeat (first | refine blk_drewN ?_ _ | refine blk_drew ?_ | refine blk_alloc ?_ _)); exact BK423.out) hg (Kd.R_ne HO446.out BK423.out (by decide))); have n7_ := Aside0.mk (hb); have n8_ := Aside0.mk (ho); clear HO_10; clear HO_11; clear HO_18; clear HO_414005; clear HO_424005; clear BK413; clear BK423; clear HB; clear HO446; have HO_10 := n0_; have HO_11 := n1_; have HO_18 := n2_; have HO_414005 := n3_; have HO_424005 := n4_; have BK413 := n5_; have BK423 := n6_; have HB := n7_; have HO449 := n8_; clear n0_ n1_ n2_ n3_ n4_ n5_ n6_ n7_ n8_; clear ho hb hg hat))
                                  (try simp only [Act.put, List.setIfInBounds_toArray, List.set_cons_zero, List.set_cons_succ])
                                  go_cut [14] (fun v14 wc => ∃ (kq : Nat) (x14_70 : List ByteArray), Aside0 (lockagelaw15_ForwardHops.j4 kq l0 a1 true x424005_13 x14_70 y401 (y401.length : Int) x20_1 t405 t406 t407 t408 t409 t410 = some r) ∧ Aside0 (kq ≤ k4) ∧ Aside0 (Kd.R k28 28 wc w.heap.size (fun k_ => some k_ ≠ ((.slice Ao18 t410.length co18) : Value).ownBlock) u424005 x424005_13) ∧ Aside0 (Kd.R Kd.string 9 wc w.heap.size (fun _ => True) v14 x14_70) ∧ Aside0 (Kd.R Kd.bool 4 wc w.heap.size (fun _ => True) (.slice (some ad404) y401.length co8) y401) ∧ Aside0 (Kd.R k28 28 wc w.heap.size (fun k_ => some k_ ≠ (u424005 : Value).ownBlock ∧ some k_ ≠ (u424005 : Value).ownBlock) (.slice Ao18 t410.length co18) t410) ∧ Aside0 (Kd.R k28 28 wc w.heap.size (fun k_ => some k_ ≠ ((.slice Ao18 t410.length co18) : Value).ownBlock) u424005 x424005_13) ∧ Aside0 (wc.heap[gb413]? = some (.cells #[.string t405, .string t406, .int .i64 t407, .string t408, .int .i64 t409, (.slice Ao18 t410.length co18)] 24 (0, 0))) ∧ Aside0 (wc.heap[gb423]? = some (.cells #[.string x424000_13, .string x424001_13, .int .i64 x424002_13, .string x424003_13, .int .i64 x424004_13, u424005, .string x424006_13] 26 (0, 0))) ∧ Aside0 (Below w.heap.size w wc))
                                  case first =>
                                    have H := HC71.out
                                    clear HC71
                                    replace H : (if (bz) = true then (lockagelaw15_ForwardHops.j4 k4 l0 a1 true x424005_13 y447 y401 (y401.length : Int) x20_1 t405 t406 t407 t408 t409 t410) else (if y447.length < 8796093022208 then (lockagelaw15_ForwardHops.j4 k4 l0 a1 true x424005_13 (y447 ++ [(⟨#[120, 45, 102, 111, 114, 119, 97, 114, 100, 101, 100, 45, 102, 111, 114]⟩ : ByteArray)]) y401 (y401.length : Int) x20_1 t405 t406 t407 t408 t409 t410) else (none))) = some r := H
                                    by_cases c76 : (bz) = true
                                    · rw [if_pos c76] at H
                                      subst c76
                                      have H' := Aside0.mk H
                                      clear H
                                      go_wp2
                                      go_meet
                                      case rel => exact ⟨_, (y447), H', ⟨by have := HK1.out; have := HJ13.out; have := HJ31.out; have := HK4.out; first | omega | exact Nat.le_refl _⟩, ⟨by (with_reducible repeat (first | apply Kd.R_alloc | apply Kd.R_drewN | apply Kd.R_drew)); exact HO_10.out⟩, ⟨by (with_reducible repeat (first | apply Kd.R_alloc | apply Kd.R_drewN | apply Kd.R_drew)); exact Kd.R_mono HO449.out (fun _ hk => trivial)⟩, ⟨by (with_reducible repeat (first | apply Kd.R_alloc | apply Kd.R_drewN | apply Kd.R_drew)); exact HO_18.out⟩, ⟨by (with_reducible repeat (first | apply Kd.R_alloc | apply Kd.R_drewN | apply Kd.R_drew)); exact HO_414005.out⟩, ⟨by (with_reducible repeat (first | apply Kd.R_alloc | apply Kd.R_drewN | apply Kd.R_drew)); exact HO_424005.out⟩, ⟨by (with_reducible repeat (first | refine blk_drewN ?_ _ | refine blk_drew ?_ | refine blk_alloc ?_ _)); exact BK413.out⟩, ⟨by (with_reducible repeat (first | refine blk_drewN ?_ _ | refine blk_drew ?_ | refine blk_alloc ?_ _)); exact BK423.out⟩, ⟨by repeat (first | (with_reducible first | exact HB.out | apply below_alloc | apply pw_below_drewN | apply below_drew1 | refine below_set ?_ GE413.out | refine below_set ?_ GE423.out) | exact HB.out)⟩⟩
                                    · rw [if_neg c76] at H
                                      replace c76 : bz = false := by simpa using c76
                                      subst c76
                                      by_cases c77 : y447.length < 8796093022208
                                      · rw [if_pos c77] at H
                                        have LMc77 := Aside0.mk c77
                                        clear c77
                                        obtain ⟨y450, hy450⟩ : ∃ y_ : List ByteArray, y_ = (y447 ++ [(⟨#[120, 45, 102, 111, 114, 119, 97, 114, 100, 101, 100, 45, 102, 111, 114]⟩ : ByteArray)]) := ⟨_, rfl⟩
                                        replace H : (lockagelaw15_ForwardHops.j4 k4 l0 a1 true x424005_13 y450 y401 (y401.length : Int) x20_1 t405 t406 t407 t408 t409 t410) = some r := by first | (rw [hy450]; with_reducible exact H) | (have H2_ := (Option.bind_some _ _).symm.trans H; rw [hy450]; with_reducible exact H2_) | (have H2_ := (Option.bind_some _ _).symm.trans H; with_reducible exact H2_) | with_reducible exact H | (rw [hy450]; exact H) | exact H
                                        have Ny450 := Aside0.mk hy450
                                        clear hy450
                                        have H' := Aside0.mk H
                                        clear H
                                        go_wp2_with (first | ((with_reducible refine gate_builtin (b := .append) (xs := #[.tmp 89, .tmp 90]) rfl ?_); (try (refine gate_guard (by rfl) ?_; dsimp only)); at_builtin; refine Kd.R_append Kd.string (w0 := w) w.heap.size rfl (.tmp 89) (.tmp 90) 38 9 (.string ⟨#[]⟩) 16 rfl Tryd.underlying38 info9 rfl (by decide) (by omega) v448 y447 (⟨#[120, 45, 102, 111, 114, 119, 97, 114, 100, 101, 100, 45, 102, 111, 114]⟩ : ByteArray) [.string (⟨#[120, 45, 102, 111, 114, 119, 97, 114, 100, 101, 100, 45, 102, 111, 114]⟩ : ByteArray)] (fun k_ => some k_ ≠ (.slice Ao72 t434.length co72 : Value).ownBlock) (fun _ => False) rfl rfl ?aP (fun _ hk => hk.elim) ?aF ?aO ?aB ?aS ?aL ?_; (case aP => exact rfl); (case aB => exact (by repeat (first | (with_reducible first | exact HB.out | apply below_alloc | apply pw_below_drewN | apply below_drew1 | refine below_set ?_ GE413.out | refine below_set ?_ GE423.out) | exact HB.out))); (case aF => exact (fun k_ hk => Kd.fresh' (Kd.R_lt (by (with_reducible repeat (first | apply Kd.R_alloc | apply Kd.R_drewN | apply Kd.R_drew)); exact HO_11.out)) k_ hk)); (case aO => exact (by (with_reducible repeat (first | apply Kd.R_alloc | apply Kd.R_drewN | apply Kd.R_drew)); exact HO449.out)); (case aS => exact (below_size (by repeat (first | (with_reducible first | exact HB.out | apply below_alloc | apply pw_below_drewN | apply below_drew1 | refine below_set ?_ GE413.out | refine below_set ?_ GE423.out) | exact HB.out)))); (case aL => have := LMc77.out; omega); intro v451 w78 ho hb hg hat; rw [← Ny450.out] at ho; have n0_ := Aside0.mk (Kd.R_over' (by (with_reducible repeat (first | apply Kd.R_alloc | apply Kd.R_drewN | apply Kd.R_drew)); exact HO_10.out) (Kd.R_typed (by (with_reducible repeat (first | apply Kd.R_alloc | apply Kd.R_drewN | apply Kd.R_drew)); exact HO449.out)) (by decide) hg); have n1_ := Aside0.mk (Kd.R_after (ok := (fun _ => True)) (by (with_reducible repeat (first | apply Kd.R_alloc | apply Kd.R_drewN | apply Kd.R_drew)); exact HO_11.out) hg hat); have n2_ := Aside0.mk (Kd.R_over' (by (with_reducible repeat (first | apply Kd.R_alloc | apply Kd.R_drewN | apply Kd.R_drew)); exact HO_18.out) (Kd.R_typed (by (with_reducible repeat (first | apply Kd.R_alloc | apply Kd.R_drewN | apply Kd.R_drew)); exact HO449.out)) (by decide) hg); have n3_ := Aside0.mk (Kd.R_over' (by (with_reducible repeat (first | apply Kd.R_alloc | apply Kd.R_drewN | apply Kd.R_drew)); exact HO_414005.out) (Kd.R_typed (by (with_reducible repeat (first | apply Kd.R_alloc | apply Kd.R_drewN | apply Kd.R_drew)); exact HO449.out)) (by decide) hg); have n4_ := Aside0.mk (Kd.R_over' (by (with_reducible repeat (first | apply Kd.R_alloc | apply Kd.R_drewN | apply Kd.R_drew)); exact HO_424005.out) (Kd.R_typed (by (with_reducible repeat (first | apply Kd.R_alloc | apply Kd.R_drewN | apply Kd.R_drew)); exact HO449.out)) (by decide) hg); have n5_ := Aside0.mk (blk_grown (g := gb413) (o := .cells #[.string t405, .string t406, .int .i64 t407, .string t408, .int .i64 t409, .slice Ao18 t410.length co18] 24 (0, 0)) (by (with_reducible repeat (first | refine blk_drewN ?_ _ | refine blk_drew ?_ | refine blk_alloc ?_ _)); exact BK413.out) hg (Kd.R_ne HO449.out BK413.out (by decide))); have n6_ := Aside0.mk (blk_grown (g := gb423) (o := .cells #[.string x424000_13, .string x424001_13, .int .i64 x424002_13, .string x424003_13, .int .i64 x424004_13, u424005, .string x424006_13] 26 (0, 0)) (by (with_reducible repeat (first | refine blk_drewN ?_ _ | refine blk_drew ?_ | refine blk_alloc ?_ _)); exact BK423.out) hg (Kd.R_ne HO449.out BK423.out (by decide))); have n7_ := Aside0.mk (hb); have n8_ := Aside0.mk (ho); clear HO_10; clear HO_11; clear HO_18; clear HO_414005; clear HO_424005; clear BK413; clear BK423; clear HB; clear HO449; have HO_10 := n0_; have HO_11 := n1_; have HO_18 := n2_; have HO_414005 := n3_; have HO_424005 := n4_; have BK413 := n5_; have BK423 := n6_; have HB := n7_; have HO452 := n8_; clear n0_ n1_ n2_ n3_ n4_ n5_ n6_ n7_ n8_; clear ho hb hg hat))
                                        go_meet
                                        case rel => exact ⟨_, (y450), H', ⟨by have := HK1.out; have := HJ13.out; have := HJ31.out; have := HK4.out; first | omega | exact Nat.le_refl _⟩, ⟨by (with_reducible repeat (first | apply Kd.R_alloc | apply Kd.R_drewN | apply Kd.R_drew)); exact HO_10.out⟩, ⟨by (with_reducible repeat (first | apply Kd.R_alloc | apply Kd.R_drewN | apply Kd.R_drew)); exact Kd.R_mono HO452.out (fun _ hk => trivial)⟩, ⟨by (with_reducible repeat (first | apply Kd.R_alloc | apply Kd.R_drewN | apply Kd.R_drew)); exact HO_18.out⟩, ⟨by (with_reducible repeat (first | apply Kd.R_alloc | apply Kd.R_drewN | apply Kd.R_drew)); exact HO_414005.out⟩, ⟨by (with_reducible repeat (first | apply Kd.R_alloc | apply Kd.R_drewN | apply Kd.R_drew)); exact HO_424005.out⟩, ⟨by (with_reducible repeat (first | refine blk_drewN ?_ _ | refine blk_drew ?_ | refine blk_alloc ?_ _)); exact BK413.out⟩, ⟨by (with_reducible repeat (first | refine blk_drewN ?_ _ | refine blk_drew ?_ | refine blk_alloc ?_ _)); exact BK423.out⟩, ⟨by repeat (first | (with_reducible first | exact HB.out | apply below_alloc | apply pw_below_drewN | apply below_drew1 | refine below_set ?_ GE413.out | refine below_set ?_ GE423.out) | exact HB.out)⟩⟩
                                      · rw [if_neg c77] at H
                                        exact absurd H (by simp)
                                  case rest =>
                                    clear HC71
                                    try clear c1
                                    try clear p2
                                    try clear q2
                                    try clear p4
                                    try clear q4
                                    try clear hx4
                                    try clear c5
                                    try clear c6
                                    try clear p6
                                    try clear c7
                                    try clear q7
                                    try clear c14
                                    try clear q24
                                    try clear p40
                                    try clear q40
                                    try clear hx40
                                    try clear p43
                                    try clear q43
                                    try clear hx43
                                    try clear p44
                                    try clear q44
                                    try clear hx44
                                    try clear c50
                                    try clear c50b0
                                    try clear c52
                                    try clear c52b0
                                    try clear c53
                                    try clear c53b0
                                    try clear c55
                                    try clear c55b0
                                    try clear c56
                                    try clear c56b0
                                    try clear c56b1
                                    try clear c62
                                    try clear c62b0
                                    try clear c62b1
                                    try clear p64
                                    try clear c69
                                    try clear c70
                                    try clear q75
                                    try clear c76
                                    try clear c76b0
                                    try clear c77
                                    try clear hcz42_1
                                    try clear hcz42_2
                                    try clear hcz42_3
                                    try clear hcz42_4
                                    try clear hcz42_5
                                    try clear hcz42_6
                                    try clear hcz48_0
                                    try clear hcz48_1
                                    try clear hcz48_2
                                    try clear hcz48_3
                                    try clear hcz48_4
                                    try clear hcz48_5
                                    try clear hfz17_0
                                    try clear hfz17_1
                                    try clear hfz17_2
                                    try clear hfz17_3
                                    try clear hfz17_4
                                    try clear hfz17_5
                                    try clear hfz22_0
                                    try clear hfz22_1
                                    try clear hfz22_2
                                    try clear hfz22_3
                                    try clear hfz22_4
                                    try clear hfz22_5
                                    try clear hfz22_6
                                    try clear hfz28_0
                                    try clear hfz28_1
                                    try clear hfz28_2
                                    try clear hfz28_3
                                    try clear hfz28_4
                                    try clear hfz28_5
                                    try clear hfz30_0
                                    try clear hfz30_1
                                    try clear hfz30_2
                                    try clear hfz30_3
                                    try clear hfz30_4
                                    try clear hfz30_5
                                    try clear hfz30_6
                                    try clear hfz34_0
                                    try clear hfz34_1
                                    try clear hfz34_2
                                    try clear hfz34_3
                                    try clear hfz34_4
                                    try clear hfz34_5
                                    try clear hfz34_6
                                    try clear hfz38_0
                                    try clear hfz38_1
                                    try clear hfz38_2
                                    try clear hfz38_3
                                    try clear hfz38_4
                                    try clear hfz38_5
                                    try clear hfz38_6
                                    try clear hfz42_0
                                    try clear hfz42_1
                                    try clear hfz42_2
                                    try clear hfz42_3
                                    try clear hfz42_4
                                    try clear hfz42_5
                                    try clear hfz42_6
                                    try clear hfz48_0
                                    try clear hfz48_1
                                    try clear hfz48_2
                                    try clear hfz48_3
                                    try clear hfz48_4
                                    try clear hfz48_5
                                    try clear hx404_0
                                    try clear hx437_0
                                    try clear hx437_1
                                    try clear hx439_0
                                    try clear hx440_0
                                    try clear p2
                                    try clear p4
                                    try clear p40
                                    try clear p404
                                    try clear p437
                                    try clear p439
                                    try clear p440
                                    try clear p6
                                    try clear q2
                                    try clear q24
                                    try clear q4
                                    try clear q40
                                    try clear q404
                                    try clear q437
                                    try clear q439
                                    try clear q440
                                    obtain ⟨kq, x14_70, HA, HJ70, HO_10, HO_14, HO_18, HO_414005, HO_424005, BK413, BK423, HB⟩ := hcut
                                    cases kq with
                                    | zero => exact absurd HA.out (by simp [lockagelaw15_ForwardHops.j4])
                                    | succ kj70 =>
                                      have H := HA.out
                                      clear HA
                                      simp only [lockagelaw15_ForwardHops.j4] at H
                                      obtain ⟨ji79, hji79⟩ : ∃ j_ : Int, (wrap64 ((x424005_13.length : Int) - 1)) = j_ := ⟨_, rfl⟩
                                      replace H : (if 0 ≤ (ji79) then (if (ji79) ≤ (x424005_13.length : Int) then ((lockageref05_Drop.f kj70 t410 x14_70).bind fun t457 => ((lockageref05_Same.f kj70 (x424005_13.take ((ji79) : Int).toNat) t457).bind fun t460 => (if t460 = true then (lockagelaw15_ForwardHops.l0 kj70 l0 a1 true y401 (y401.length : Int) (wrap64 (x20_1 + 1))) else (none)))) else (none)) else (none)) = some r := by first | (rw [hji79] at H; exact H) | (simp only [hji79] at H ⊢; exact H)
                                      have hji79w : (IntKind.i64.wrap ((x424005_13.length : Int) - 1)) = ji79 := (i64_w _).trans hji79
                                      by_cases c80 : 0 ≤ (ji79)
                                      · rw [if_pos c80] at H
                                        have c80b0 := eq_true c80
                                        have c80b1 : decide (0 ≤ (ji79)) = true := decide_eq_true c80
                                        clear c80
                                        by_cases c81 : (ji79) ≤ (x424005_13.length : Int)
                                        · rw [if_pos c81] at H
                                          have c81b0 := eq_true c81
                                          have c81b1 : decide ((ji79) ≤ (x424005_13.length : Int)) = true := decide_eq_true c81
                                          clear c81
                                          obtain ⟨y453, hy453⟩ : ∃ y_ : List (S28), y_ = (x424005_13.take ((ji79) : Int).toNat) := ⟨_, rfl⟩
                                          replace H : ((lockageref05_Drop.f kj70 t410 x14_70).bind fun t457 => ((lockageref05_Same.f kj70 y453 t457).bind fun t460 => (if t460 = true then (lockagelaw15_ForwardHops.l0 kj70 l0 a1 true y401 (y401.length : Int) (wrap64 (x20_1 + 1))) else (none)))) = some r := by first | (rw [hy453]; with_reducible exact H) | (have H2_ := (Option.bind_some _ _).symm.trans H; rw [hy453]; with_reducible exact H2_) | (have H2_ := (Option.bind_some _ _).symm.trans H; with_reducible exact H2_) | with_reducible exact H | (rw [hy453]; exact H) | exact H
                                          have Ny453 := Aside0.mk hy453
                                          clear hy453
                                          replace H := Option.bind_eq_some_iff.mp H
                                          obtain ⟨t457, A820, H⟩ := H
                                          replace H : ((lockageref05_Same.f kj70 y453 t457).bind fun t460 => (if t460 = true then (lockagelaw15_ForwardHops.l0 kj70 l0 a1 true y401 (y401.length : Int) (wrap64 (x20_1 + 1))) else (none))) = some r := H
                                          have A82 := Aside0.mk A820
                                          clear A820
                                          replace H := Option.bind_eq_some_iff.mp H
                                          obtain ⟨t460, A830, H⟩ := H
                                          replace H : (if t460 = true then (lockagelaw15_ForwardHops.l0 kj70 l0 a1 true y401 (y401.length : Int) (wrap64 (x20_1 + 1))) else (none)) = some r := H
                                          have A83 := Aside0.mk A830
                                          clear A830
                                          by_cases c84 : t460 = true
                                          · subst c84
                                            have H1 : (lockagelaw15_ForwardHops.l0 kj70 l0 a1 true y401 (y401.length : Int) (wrap64 (x20_1 + 1))) = some r := by rw [if_pos rfl] at H; exact H
                                            clear H
                                            have H := H1
                                            clear H1
                                            have H' := Aside0.mk H
                                            clear H
                                            try go_wp2
                                            have n0_ := Aside0.mk (Kd.R_drew HO_10.out)
                                            have n1_ := Aside0.mk (Kd.R_drew HO_14.out)
                                            have n2_ := Aside0.mk (Kd.R_drew HO_18.out)
                                            have n3_ := Aside0.mk (Kd.R_drew HO_414005.out)
                                            have n4_ := Aside0.mk (Kd.R_drew HO_424005.out)
                                            have n5_ := Aside0.mk (blk_drew BK413.out)
                                            have n6_ := Aside0.mk (blk_drew BK423.out)
                                            have n7_ := Aside0.mk (below_drew1 HB.out)
                                            clear HO_10
                                            clear HO_14
                                            clear HO_18
                                            clear HO_414005
                                            clear HO_424005
                                            clear BK413
                                            clear BK423
                                            clear HB
                                            have HO_10 := n0_
                                            have HO_14 := n1_
                                            have HO_18 := n2_
                                            have HO_414005 := n3_
                                            have HO_424005 := n4_
                                            have BK413 := n5_
                                            have BK423 := n6_
                                            have HB := n7_
                                            clear n0_ n1_ n2_ n3_ n4_ n5_ n6_ n7_
                                            obtain ⟨Ao86, co86, eo86⟩ := Kd.R_slice HO_10.out
                                            (first | subst eo86 | (injection eo86 with f1_ f2_ f3_; have f4_ := f1_.symm; have f5_ := f3_.symm; clear f1_ f2_ f3_; subst f4_; subst f5_))
                                            have q87 : ((ji79) : Int) ≤ ((x424005_13.length : Int) : Int) := of_decide_eq_true (by first | (with_reducible assumption) | assumption)
                                            obtain ⟨i087, hi087, _, hsz87, _⟩ := info_parts info28
                                            have hroom87 : x424005_13.length ≤ co86 := (Kd.R_reads' HO_10.out).2.1
                                            have hC87 : Kd.C k28 _ Ao86 x424005_13.length x424005_13 := (Kd.R_reads' HO_10.out).2.2
                                            have hcut87 := cut_to (P := Tryd.prog) 22 28 .i64 Tryd.underlying22 hi087 Ao86 x424005_13.length co86 (ji79) (of_decide_eq_true (by first | (with_reducible assumption) | assumption)) q87 hroom87
                                            have hr87 := Kd.C_take (m := ((ji79) : Int).toNat) hC87 (by omega)
                                            have hy87 : y453.length = ((ji79) : Int).toNat := (by rw [Ny453.out, List.length_take]; omega)
                                            rw [← Ny453.out] at hr87
                                            rw [← hy87] at hcut87
                                            have HR456 := Aside0.mk hr87
                                            have HC456 := Aside0.mk (show y453.length ≤ co86 from by omega)
                                            clear hr87 hC87 hroom87 hi087 hsz87
                                            have KY87 := Aside0.mk hy87
                                            clear hy87
                                            have KL87 := Aside0.mk (show ((ji79) : Int).toNat ≤ x424005_13.length from by omega)
                                            replace q87 := eq_true q87
                                            obtain ⟨Ao88, co88, eo88⟩ := Kd.R_slice HO_14.out
                                            (first | subst eo88 | (injection eo88 with f1_ f2_ f3_; have f4_ := f1_.symm; have f5_ := f3_.symm; clear f1_ f2_ f3_; subst f4_; subst f5_))
                                            refine start_ (n := 11) (S := fun w' => w'.cell? ⟨gb413, 0, none⟩ = some (.string t405) ∧ w'.cell? ⟨gb413, 1, none⟩ = some (.string t406) ∧ w'.cell? ⟨gb413, 2, none⟩ = some (.int .i64 t407) ∧ w'.cell? ⟨gb413, 3, none⟩ = some (.string t408) ∧ w'.cell? ⟨gb413, 4, none⟩ = some (.int .i64 t409) ∧ w'.cell? ⟨gb413, 5, none⟩ = some (.slice Ao18 t410.length co18)) (ds := []) #[false, false, false, false, false, false, false, false, false, false, false] (by kernel_rfl) rfl rfl ⟨(blk_cell BK413.out 0).trans rfl, (blk_cell BK413.out 1).trans rfl, (blk_cell BK413.out 2).trans rfl, (blk_cell BK413.out 3).trans rfl, (blk_cell BK413.out 4).trans rfl, (blk_cell BK413.out 5).trans rfl⟩ (fun hHeld => ?_); refine with_tabW lockagelaw15_ForwardHops.tab24 lockagelaw15_ForwardHops.bits24 (fun HT_ HW_ => ?_)
                                            generalize wc.drew = w85 at HO_10 HO_14 HO_18 HO_414005 HO_424005 BK413 BK423 HB HR456 hHeld ⊢
                                            refine pure_ (i := 0) (N := some 92) (v := ?_) (a' := ?_) #[true, false, false, false, false, false, false, false, false, false, false] rfl rfl (any_of HT_.out (by kernel_rfl)) (fun _ _ _ h => h) (Or.inl ⟨by rfl, ?_⟩) ?_ ?_
                                            rotate_left
                                            · intro w'
                                              go_simp
                                              with_reducible rfl
                                            rotate_left
                                            · simp only [Act.put, List.setIfInBounds_toArray, List.set_cons_zero, List.set_cons_succ, i64_w, i32_w]
                                              rfl
                                            refine pure_ (i := 1) (N := some 93) (v := ?_) (a' := ?_) #[true, true, false, false, false, false, false, false, false, false, false] rfl rfl (any_of HT_.out (by kernel_rfl)) (fun _ _ _ h => h) (Or.inl ⟨by rfl, ?_⟩) ?_ ?_
                                            rotate_left
                                            · intro w'
                                              go_simp
                                              with_reducible rfl
                                            rotate_left
                                            · simp only [Act.put, List.setIfInBounds_toArray, List.set_cons_zero, List.set_cons_succ, i64_w, i32_w]
                                              rfl
                                            refine pure_ (i := 2) (N := some 94) (v := ?_) (a' := ?_) #[true, true, true, false, false, false, false, false, false, false, false] rfl rfl (any_of HT_.out (by kernel_rfl)) (fun _ _ _ h => h) (Or.inl ⟨by rfl, ?_⟩) ?_ ?_
                                            rotate_left
                                            · intro w'
                                              go_simp
                                              with_reducible rfl
                                            rotate_left
                                            · simp only [Act.put, List.setIfInBounds_toArray, List.set_cons_zero, List.set_cons_succ, i64_w, i32_w]
                                              rfl
                                            refine pure_ (i := 3) (N := some 95) (v := ?_) (a' := ?_) #[true, true, true, true, false, false, false, false, false, false, false] rfl rfl (any_of HT_.out (by kernel_rfl)) (fun _ _ _ h => h) (Or.inl ⟨by rfl, ?_⟩) ?_ ?_
                                            rotate_left
                                            · intro w'
                                              go_simp
                                              with_reducible rfl
                                            rotate_left
                                            · simp only [Act.put, List.setIfInBounds_toArray, List.set_cons_zero, List.set_cons_succ, i64_w, i32_w]
                                              rfl
                                            refine pure_ (i := 4) (N := some 96) (v := ?_) (a' := ?_) #[true, true, true, true, true, false, false, false, false, false, false] rfl rfl (any_of HT_.out (by kernel_rfl)) (fun _ _ _ h => h) (Or.inl ⟨by rfl, ?_⟩) ?_ ?_
                                            rotate_left
                                            · intro w'
                                              go_simp
                                              with_reducible rfl
                                            rotate_left
                                            · simp only [Act.put, List.setIfInBounds_toArray, List.set_cons_zero, List.set_cons_succ, i64_w, i32_w]
                                              rfl
                                            refine pure_ (i := 5) (N := some 97) (v := ?_) (a' := ?_) #[true, true, true, true, true, true, false, false, false, false, false] rfl rfl (any_of HT_.out (by kernel_rfl)) (fun _ _ _ h => h) (Or.inl ⟨by rfl, ?_⟩) ?_ ?_
                                            rotate_left
                                            · intro w'
                                              go_simp
                                              with_reducible rfl
                                            rotate_left
                                            · simp only [Act.put, List.setIfInBounds_toArray, List.set_cons_zero, List.set_cons_succ, i64_w, i32_w]
                                              rfl
                                            refine pure_ (i := 7) (N := some 99) (v := ?_) (a' := ?_) #[true, true, true, true, true, true, false, true, false, false, false] rfl rfl (any_of HT_.out (by kernel_rfl)) (fun _ _ _ h => h) (Or.inl ⟨by rfl, ?_⟩) ?_ ?_
                                            rotate_left
                                            · intro w'
                                              go_simp
                                              with_reducible rfl
                                            rotate_left
                                            · simp only [Act.put, List.setIfInBounds_toArray, List.set_cons_zero, List.set_cons_succ, i64_w, i32_w]
                                              rfl
                                            refine take_ (i := 6) (N := some 98) (v := ?_) (a' := ?_) #[true, true, true, true, true, true, true, true, false, false, false] rfl rfl (take_ofW HT_.out HW_.out (by kernel_rfl)) (fun _ _ _ h => h) (Or.inl ⟨by rfl, ?_⟩) hHeld ?_ ?_
                                            rotate_left
                                            · rintro w' ⟨s0, s1, s2, s3, s4, s5⟩
                                              go_simp
                                              with_reducible rfl
                                            rotate_left
                                            · simp only [Act.put, List.setIfInBounds_toArray, List.set_cons_zero, List.set_cons_succ, i64_w, i32_w]
                                              rfl
                                            refine one_ (i := 8) (N := some 100) #[true, true, true, true, true, true, true, true, true, false, false] rfl rfl (one_of HT_.out (by kernel_rfl)) (by decide) (fun K hK => ?_)
                                            refine goes_ Tryd.func17 (by kernel_rfl) rfl #[.slice Ao18 t410.length co18, .slice Ao88 x14_70.length co88] (by rfl) rfl rfl (by (try simp only [List.map_toArray, List.map_cons, List.map_nil]); first | done | rfl | (simp only [List.length_drop, List.length_take]; rfl)) ?_
                                            with_reducible refine (lockageref05_Drop.calls kj70 _ _ t410 _ _ x14_70 t457 _ ?side1 ?side2 ?side3 ?side4 A82.out).mono ?_
                                            (case side1 => repeat (first | exact (Kd.R_reads' HO_414005.out).2.2 | (with_reducible refine Kd.C_alloc ?_ _) | (with_reducible refine Kd.C_drewN ?_ _) | (with_reducible refine Kd.C_drew ?_)))
                                            (case side2 => exact (Kd.R_reads' HO_414005.out).2.1)
                                            (case side3 => repeat (first | exact (Kd.R_reads' HO_14.out).2.2 | (with_reducible refine Kd.C_alloc ?_ _) | (with_reducible refine Kd.C_drewN ?_ _) | (with_reducible refine Kd.C_drew ?_)))
                                            (case side4 => exact (Kd.R_reads' HO_14.out).2.1)
                                            rintro e w89 ⟨v458, rfl, ho0, hb⟩
                                            refine ⟨_, rfl, ?_⟩
                                            have n0_ := Aside0.mk (Kd.R_elder' (by (with_reducible repeat (first | apply Kd.R_alloc | apply Kd.R_drewN | apply Kd.R_drew)); exact HO_10.out) (Kd.R_base ho0) hb)
                                            have n1_ := Aside0.mk (Kd.R_below (by (with_reducible repeat (first | apply Kd.R_alloc | apply Kd.R_drewN | apply Kd.R_drew)); exact HO_14.out) hb)
                                            have n2_ := Aside0.mk (Kd.R_below (by (with_reducible repeat (first | apply Kd.R_alloc | apply Kd.R_drewN | apply Kd.R_drew)); exact HO_18.out) hb)
                                            have n3_ := Aside0.mk (Kd.R_elder' (by (with_reducible repeat (first | apply Kd.R_alloc | apply Kd.R_drewN | apply Kd.R_drew)); exact HO_414005.out) (Kd.R_base ho0) hb)
                                            have n4_ := Aside0.mk (Kd.R_elder' (by (with_reducible repeat (first | apply Kd.R_alloc | apply Kd.R_drewN | apply Kd.R_drew)); exact HO_424005.out) (Kd.R_base ho0) hb)
                                            have n5_ := Aside0.mk (Kd.R_lower (Kd.R_new' (Kd.R_new' (Kd.R_new' ho0 (Kd.R_lt (by (with_reducible repeat (first | apply Kd.R_alloc | apply Kd.R_drewN | apply Kd.R_drew)); exact HO_10.out))) (Kd.R_lt (by (with_reducible repeat (first | apply Kd.R_alloc | apply Kd.R_drewN | apply Kd.R_drew)); exact HO_414005.out))) (Kd.R_lt (by (with_reducible repeat (first | apply Kd.R_alloc | apply Kd.R_drewN | apply Kd.R_drew)); exact HO_424005.out))) (below_size (by repeat (first | (with_reducible first | exact HB.out | apply below_alloc | apply pw_below_drewN | apply below_drew1 | refine below_set ?_ GE413.out | refine below_set ?_ GE423.out) | exact HB.out))))
                                            have n6_ := Aside0.mk (blk_below (g := gb413) (o := .cells #[.string t405, .string t406, .int .i64 t407, .string t408, .int .i64 t409, .slice Ao18 t410.length co18] 24 (0, 0)) (by (with_reducible repeat (first | refine blk_drewN ?_ _ | refine blk_drew ?_ | refine blk_alloc ?_ _)); exact BK413.out) hb)
                                            have n7_ := Aside0.mk (blk_below (g := gb423) (o := .cells #[.string x424000_13, .string x424001_13, .int .i64 x424002_13, .string x424003_13, .int .i64 x424004_13, .slice Ao86 x424005_13.length co86, .string x424006_13] 26 (0, 0)) (by (with_reducible repeat (first | refine blk_drewN ?_ _ | refine blk_drew ?_ | refine blk_alloc ?_ _)); exact BK423.out) hb)
                                            have n8_ := Aside0.mk (Kd.C_below (by repeat (first | (with_reducible exact HR456.out) | (with_reducible refine Kd.C_alloc ?_ _) | (with_reducible refine Kd.C_drewN ?_ _) | (with_reducible refine Kd.C_drew ?_) | exact HR456.out)) hb)
                                            have n9_ := Aside0.mk (below_step (by repeat (first | (with_reducible first | exact HB.out | apply below_alloc | apply pw_below_drewN | apply below_drew1 | refine below_set ?_ GE413.out | refine below_set ?_ GE423.out) | exact HB.out)) hb)
                                            clear HO_10
                                            clear HO_14
                                            clear HO_18
                                            clear HO_414005
                                            clear HO_424005
                                            clear BK413
                                            clear BK423
                                            clear HR456
                                            clear HB
                                            have HO_10 := n0_
                                            have HO_14 := n1_
                                            have HO_18 := n2_
                                            have HO_414005 := n3_
                                            have HO_424005 := n4_
                                            have HO459 := n5_
                                            have BK413 := n6_
                                            have BK423 := n7_
                                            have HR456 := n8_
                                            have HB := n9_
                                            clear n0_ n1_ n2_ n3_ n4_ n5_ n6_ n7_ n8_ n9_
                                            (try clear hb)
                                            (try clear hb2)
                                            (try clear hk)
                                            (try clear hi)
                                            (try clear ho0)
                                            obtain ⟨Ao90, co90, eo90⟩ := Kd.R_slice HO459.out
                                            (first | subst eo90 | (injection eo90 with f1_ f2_ f3_; have f4_ := f1_.symm; have f5_ := f3_.symm; clear f1_ f2_ f3_; subst f4_; subst f5_))
                                            refine hK.out _ _ ⟨(blk_cell BK413.out 0).trans rfl, (blk_cell BK413.out 1).trans rfl, (blk_cell BK413.out 2).trans rfl, (blk_cell BK413.out 3).trans rfl, (blk_cell BK413.out 4).trans rfl, (blk_cell BK413.out 5).trans rfl⟩ (fun hHeld => ?_)
                                            clear hK K
                                            refine norm_ (a' := ?_) ?_ ?_
                                            rotate_left
                                            · show Act.put _ (some 100) _ = _
                                              simp only [Act.put, List.setIfInBounds_toArray, List.set_cons_zero, List.set_cons_succ, i64_w, i32_w]
                                              rfl
                                            refine one_ (i := 9) (N := some 101) #[true, true, true, true, true, true, true, true, true, true, false] rfl rfl (one_of HT_.out (by kernel_rfl)) (by decide) (fun K hK => ?_)
                                            refine goes_ Tryd.func16 (by kernel_rfl) rfl #[.slice Ao86 y453.length co86, .slice Ao90 t457.length co90] (by rfl) rfl rfl (by (try simp only [List.map_toArray, List.map_cons, List.map_nil]); first | done | rfl | (simp only [List.length_drop, List.length_take]; rfl)) ?_
                                            with_reducible refine (lockageref05_Same.calls kj70 _ _ y453 _ _ t457 true _ ?side1 ?side2 ?side3 ?side4 A83.out).mono ?_
                                            (case side1 => repeat (first | exact (by repeat (first | (with_reducible exact HR456.out) | (with_reducible refine Kd.C_alloc ?_ _) | (with_reducible refine Kd.C_drewN ?_ _) | (with_reducible refine Kd.C_drew ?_) | exact HR456.out)) | (with_reducible refine Kd.C_alloc ?_ _) | (with_reducible refine Kd.C_drewN ?_ _) | (with_reducible refine Kd.C_drew ?_)))
                                            (case side2 => exact HC456.out)
                                            (case side3 => repeat (first | exact (Kd.R_reads' HO459.out).2.2 | (with_reducible refine Kd.C_alloc ?_ _) | (with_reducible refine Kd.C_drewN ?_ _) | (with_reducible refine Kd.C_drew ?_)))
                                            (case side4 => exact (Kd.R_reads' HO459.out).2.1)
                                            rintro e w' ⟨rfl, ⟨nd, rfl⟩⟩
                                            refine ⟨_, rfl, ?_⟩
                                            refine hK.out _ _ ⟨(blk_cell BK413.out 0).trans rfl, (blk_cell BK413.out 1).trans rfl, (blk_cell BK413.out 2).trans rfl, (blk_cell BK413.out 3).trans rfl, (blk_cell BK413.out 4).trans rfl, (blk_cell BK413.out 5).trans rfl⟩ (fun hHeld => ?_)
                                            clear hK K
                                            refine norm_ (a' := ?_) ?_ ?_
                                            rotate_left
                                            · show Act.put _ (some 101) _ = _
                                              simp only [Act.put, List.setIfInBounds_toArray, List.set_cons_zero, List.set_cons_succ, i64_w, i32_w]
                                              rfl
                                            refine pure_ (i := 10) (N := some 102) (v := ?_) (a' := ?_) #[true, true, true, true, true, true, true, true, true, true, true] rfl rfl (any_of HT_.out (by kernel_rfl)) (fun _ _ _ h => h) (Or.inl ⟨by rfl, ?_⟩) ?_ ?_
                                            rotate_left
                                            · intro w'
                                              go_simp
                                              with_reducible rfl
                                            rotate_left
                                            · simp only [Act.put, List.setIfInBounds_toArray, List.set_cons_zero, List.set_cons_succ, i64_w, i32_w]
                                              rfl
                                            refine done_ (done_of HT_.out (by kernel_rfl)) ?_
                                            try go_wp2
                                            go_roundg kj70
                                            case measure => have := HK1.out; have := HJ13.out; have := HJ31.out; have := HK4.out; have := HJ70.out; omega
                                            case rel => exact ⟨(wrap64 (x20_1 + 1)), (by first | rfl | (simp; done) | (simp [*]; done)), H', ⟨by have := HK1.out; have := HJ13.out; have := HJ31.out; have := HK4.out; have := HJ70.out; omega⟩, ⟨by (with_reducible repeat (first | apply Kd.R_alloc | apply Kd.R_drewN | apply Kd.R_drew)); exact HO_18.out⟩, ⟨by repeat (first | (with_reducible first | exact HB.out | apply below_alloc | apply pw_below_drewN | apply below_drew1 | refine below_set ?_ GE413.out | refine below_set ?_ GE423.out) | exact HB.out)⟩⟩
                                          · replace c84 := Bool.eq_false_iff.mpr c84
                                            subst c84
                                            have H1 : (none) = some r := by rw [if_neg (show ¬ (false = true) by decide)] at H; exact H
                                            clear H
                                            have H := H1
                                            clear H1
                                            exact absurd H (by simp)
                                        · rw [if_neg c81] at H
                                          exact absurd H (by simp)
                                      · rw [if_neg c80] at H
                                        exact absurd H (by simp)
                                · rw [if_neg c70] at H
                                  exact absurd H (by simp)
                              · rw [if_neg c69] at H
                                exact absurd H (by simp)
            · rw [if_neg c11] at H
              exact absurd H (by simp)
          · rw [if_neg c10] at H
            exact absurd H (by simp)
        · rw [if_neg c9] at H
          have c9b0 : decide (x20_1 < (y401.length : Int)) = false := decide_eq_false c9
          clear c9
          obtain rfl := Option.some.inj H
          go_wp2
          go_ret
          exact ⟨by first | rfl | (simp [errW_none, errW_some] <;> rfl) | (simp [*, errW_none, errW_some] <;> rfl), by repeat (first | (with_reducible first | exact HB.out | apply below_alloc | apply pw_below_drewN | apply below_drew1) | exact HB.out)⟩
  · replace c4 := Bool.eq_false_iff.mpr c4
    subst c4
    have H1 : (none) = some r := by rw [if_neg (show ¬ (false = true) by decide)] at H; exact H
    clear H
    have H := H1
    clear H1
    exact absurd H (by simp)

/-- THE ONE PURE STATEMENT of lockagelaw15_ForwardHops: yours. -/
def lockagelaw15_ForwardHops.Pure : Prop := ∀ (l0 : List Int) (a1 : Int), l0.length ≤ maxLen → l0.length * 1 ≤ 140737488351232 → (∀ x ∈ l0, (Lit.int .u8 x).wf = true) → (Lit.int .u8 a1).wf = true → ∃ k, lockagelaw15_ForwardHops.f k l0 a1 = some true

end Go.Proofs.YthmpfncidpjnjaaDoor.P
