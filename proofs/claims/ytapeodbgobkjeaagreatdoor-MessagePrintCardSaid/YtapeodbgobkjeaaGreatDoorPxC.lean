/- Several parts together: Printed by a program of the session out of the translation: plain Lean functions, each with the contract that the Go function computes it; Printed by a program of the session out of the translation: plain Lean functions, each with the contract that the Go function computes it. -/
import Derived.Test.YtapeodbgobkjeaaGreatDoorHZM
import Derived.Test.YtapeodbgobkjeaaGreatDoorPx0
import Derived.Test.YtapeodbgobkjeaaGreatDoorPx11
namespace Go.Proofs.YtapeodbgobkjeaaGreatDoor.P
open Go.RowKit Go.Proofs.YtapeodbgobkjeaaGreatDoorW.PrintWords Go.Proofs.YtapeodbgobkjeaaGreatDoorW.PrintLast Go.Proofs.YtapeodbgobkjeaaGreatDoorW.PrintMore
attribute [local go_sem] max2_int min2_int max_two min_two max_three min_three max_four min_four   -- for this text's walks alone
set_option linter.unusedVariables false
set_option linter.unusedSimpArgs false

def lockageref05_Name.l0 : Nat → ByteArray → Int → Option (Bool)
 | 0, _, _ => none
 | k + 1, x0, x3 => if x3 < (x0.size : Int) then (if 0 ≤ x3 then ((lockageref05_tchar.f k (bt x0 x3)).bind fun t249 => (if t249 = true then (lockageref05_Name.l0 k x0 (wrap64 (x3 + 1))) else (some false))) else (none)) else (if x0.toList = ([] : List UInt8) then (some false) else (some (decide ((x0.size : Int) ≤ 40))))
def lockageref05_Name.f (k : Nat) (a0 : ByteArray) : Option (Bool) := lockageref05_Name.l0 k a0 0
theorem lockageref05_Name.mono_l : ∀ k, (∀ y0 y1, LeO (lockageref05_Name.l0 k y0 y1) (lockageref05_Name.l0 (k + 1) y0 y1))
 | 0 => fun _ _ r h => by simp [lockageref05_Name.l0] at h
 | k + 1 => by
  have ih0 := lockageref05_Name.mono_l k
  ·intro y0 y1
   unfold lockageref05_Name.l0; have m0 := @lockageref05_tchar.mono; exact zM
theorem lockageref05_Name.mono : ∀ a0 k, LeO (lockageref05_Name.f k a0) (lockageref05_Name.f (k + 1) a0) := by
 intro a0 k
 have ih0 := lockageref05_Name.mono_l k
 unfold lockageref05_Name.f; have m0 := @lockageref05_tchar.mono; exact zM
set_option maxHeartbeats 8000000 in
set_option maxRecDepth 100000 in
theorem lockageref05_Name.calls (k : Nat) (a0 : ByteArray) (r : Bool) (w : World) (h : lockageref05_Name.f k a0 = some r) :
  Calls Tryz.prog 74 #[.string a0] w fun e w' => e = .returned (.bool r) ∧ Drawn0 w w' := by
 have H : (lockageref05_Name.l0 k a0 0) = some r := h; clear h; have H' := aM H; clear H
 go_enter Tryz.func74, Tryz.ntmps74
 go_wp2
 go_loopg [3] k (fun kq v3 w' => ∃ (x3_1 : Int), v3 = .int .i64 x3_1 ∧ Aside0 (lockageref05_Name.l0 kq a0 x3_1 = some r) ∧ Aside0 (kq ≤ k) ∧ Drawn0 w w')
 case atStart => exact ⟨(0), zR, H', ⟨Nat.le_refl _⟩, zD⟩
 case round =>
  clear H'; obtain ⟨x3_1, rfl, HA, HK1, ⟨m1, rfl⟩⟩ := hrel; cases gk with
  | zero => exact absurd HA.out (by simp [lockageref05_Name.l0])
  | succ k1 =>
   have H := HA.out; clear HA; simp only [lockageref05_Name.l0] at H; by_cases c2 : x3_1 < (a0.size : Int)
   ·rw [if_pos c2] at H; have c2b0 := decide_eq_true c2; clear c2; by_cases c3 : 0 ≤ x3_1
    ·rw [if_pos c3] at H; have c3b0 := decide_eq_true c3; clear c3; replace H := Option.bind_eq_some_iff.mp H; obtain ⟨t249, A50, H⟩ := H; replace H : (if t249 = true then (lockageref05_Name.l0 k1 a0 (wrap64 (x3_1 + 1))) else (some false)) = some r := H; have A5 := aM A50; clear A50; by_cases c6 : t249 = true
     ·subst c6; rw [if_pos rfl] at H; have H' := aM H; clear H; have p4 : 0 ≤ (x3_1 : Int) := of_decide_eq_true zA; have q4 : x3_1 < (a0.size : Int) := of_decide_eq_true zA; have hx4 := bt_at a0 x3_1; replace p4 := eq_true p4; replace q4 := eq_true q4
      go_wp2_with (first | ((with_reducible refine gate_callee (f := 97) rfl ?_); refine goesL_ (some 13) rfl rfl Tryz.func97 (by kernel_rfl) rfl #[.int .u8 (bt a0 x3_1)] rfl zL ?_; (with_reducible refine (lockageref05_tchar.calls k1 (bt a0 x3_1) true _ A5.out).mono ?_); rintro e w' ⟨rfl, ⟨nd, rfl⟩⟩; refine ⟨_, rfl, ?_⟩))
      go_roundg k1
      case measure => have := HK1.out; omega
      case rel => exact ⟨(wrap64 (x3_1 + 1)), zR, H', ⟨by have := HK1.out; omega⟩, zD⟩
     ·replace c6 := Bool.eq_false_iff.mpr c6; subst c6; rw [if_neg (show ¬ (false = true) by decide)] at H; obtain rfl := Option.some.inj H; have p4 : 0 ≤ (x3_1 : Int) := of_decide_eq_true zA; have q4 : x3_1 < (a0.size : Int) := of_decide_eq_true zA; have hx4 := bt_at a0 x3_1; replace p4 := eq_true p4; replace q4 := eq_true q4
      go_wp2_with (first | ((with_reducible refine gate_callee (f := 97) rfl ?_); refine goesL_ (some 13) rfl rfl Tryz.func97 (by kernel_rfl) rfl #[.int .u8 (bt a0 x3_1)] rfl zL ?_; (with_reducible refine (lockageref05_tchar.calls k1 (bt a0 x3_1) false _ A5.out).mono ?_); rintro e w' ⟨rfl, ⟨nd, rfl⟩⟩; refine ⟨_, rfl, ?_⟩))
      go_ret
      exact ⟨zR, zD⟩
    ·exact zf c3 H
   ·rw [if_neg c2] at H; have c2b0 := decide_eq_false c2; clear c2; by_cases c7 : a0.toList = ([] : List UInt8)
    ·rw [if_pos c7] at H; obtain ⟨c7b0, c7b1⟩ := zd c7; clear c7; obtain rfl := Option.some.inj H
     go_wp2
     go_ret
     exact ⟨zR, zD⟩
    ·rw [if_neg c7] at H; obtain ⟨c7b0, c7b1⟩ := ze c7; obtain rfl := Option.some.inj H
     go_wp2
     go_ret
     exact ⟨zR, zD⟩

def lockageref05_blank.f (a0 : Int) : Option (Bool) := if a0 = 32 then (some true) else (some (a0 == 9))
set_option maxHeartbeats 8000000 in
set_option maxRecDepth 100000 in
theorem lockageref05_blank.calls (a0 : Int) (r : Bool) (w : World) (h : lockageref05_blank.f a0 = some r) :
  Calls Tryz.prog 150 #[.int .u8 a0] w fun e w' => e = .returned (.bool r) ∧ Drawn0 w w' := by
 have H : (if a0 = 32 then (some true) else (some (a0 == 9))) = some r := h; clear h; by_cases c2 : a0 = 32
 ·rw [if_pos c2] at H; obtain ⟨c2b0, c2b1⟩ := zd c2; clear c2; obtain rfl := Option.some.inj H
  go_enter Tryz.func150, Tryz.ntmps150
  go_wp2
  go_ret
  exact ⟨zR, zD⟩
 ·rw [if_neg c2] at H; obtain ⟨c2b0, c2b1⟩ := ze c2; obtain rfl := Option.some.inj H
  go_enter Tryz.func150, Tryz.ntmps150
  go_wp2
  go_ret
  exact ⟨zR, zD⟩

mutual
def lockageref05_Trim.j1 : Nat → ByteArray → Option (ByteArray)
 | 0, _ => none
 | k + 1, x0 => lockageref05_Trim.l1 k x0
def lockageref05_Trim.l1 : Nat → ByteArray → Option (ByteArray)
 | 0, _ => none
 | k + 1, x0 => if (x0.size : Int) > 0 then (if 0 ≤ (wrap64 ((x0.size : Int) - 1)) then (if (wrap64 ((x0.size : Int) - 1)) < (x0.size : Int) then ((lockageref05_blank.f (bt x0 (wrap64 ((x0.size : Int) - 1)))).bind fun t251 => (if t251 = true then (if (wrap64 ((x0.size : Int) - 1)) ≤ (x0.size : Int) then (lockageref05_Trim.l1 k (x0.extract 0 ((wrap64 ((x0.size : Int) - 1)) : Int).toNat)) else (none)) else (some x0))) else (none)) else (none)) else (some x0)
def lockageref05_Trim.l0 : Nat → ByteArray → Option (ByteArray)
 | 0, _ => none
 | k + 1, x0 => if (x0.size : Int) > 0 then (if 0 < (x0.size : Int) then ((lockageref05_blank.f (bt x0 0)).bind fun t250 => (if t250 = true then (if 1 ≤ (x0.size : Int) then (lockageref05_Trim.l0 k (x0.extract 1 x0.size)) else (none)) else (lockageref05_Trim.j1 k x0))) else (none)) else (lockageref05_Trim.j1 k x0)
end
def lockageref05_Trim.f (k : Nat) (a0 : ByteArray) : Option (ByteArray) := lockageref05_Trim.l0 k a0
theorem lockageref05_Trim.mono_l : ∀ k, (∀ y0, LeO (lockageref05_Trim.j1 k y0) (lockageref05_Trim.j1 (k + 1) y0)) ∧ (∀ y0, LeO (lockageref05_Trim.l1 k y0) (lockageref05_Trim.l1 (k + 1) y0)) ∧ (∀ y0, LeO (lockageref05_Trim.l0 k y0) (lockageref05_Trim.l0 (k + 1) y0))
 | 0 => ⟨fun _ r h => by simp [lockageref05_Trim.j1] at h, fun _ r h => by simp [lockageref05_Trim.l1] at h, fun _ r h => by simp [lockageref05_Trim.l0] at h⟩
 | k + 1 => by
  obtain ⟨ih0, ih1, ih2⟩ := lockageref05_Trim.mono_l k
  refine ⟨?_, ?_, ?_⟩
  ·intro y0
   unfold lockageref05_Trim.j1; exact zM
  ·intro y0
   unfold lockageref05_Trim.l1; exact zM
  ·intro y0
   unfold lockageref05_Trim.l0; exact zM
theorem lockageref05_Trim.mono : ∀ a0 k, LeO (lockageref05_Trim.f k a0) (lockageref05_Trim.f (k + 1) a0) := by
 intro a0 k
 obtain ⟨ih0, ih1, ih2⟩ := lockageref05_Trim.mono_l k
 unfold lockageref05_Trim.f; exact zM
set_option maxHeartbeats 8000000 in
set_option maxRecDepth 100000 in
theorem lockageref05_Trim.calls (k : Nat) (a0 : ByteArray) (r : ByteArray) (w : World) (h : lockageref05_Trim.f k a0 = some r) :
  Calls Tryz.prog 118 #[.string a0] w fun e w' => e = .returned (.string r) ∧ Drawn0 w w' := by
 have H : (lockageref05_Trim.l0 k a0) = some r := h; clear h; have HC2 := aM H; clear H
 go_enter Tryz.func118, Tryz.ntmps118
 go_upto_block 0 with (fail)
 go_cut [0] (fun v0 wc => ∃ (kq : Nat) (x0_1 : ByteArray), v0 = .string x0_1 ∧ Aside0 (lockageref05_Trim.j1 kq x0_1 = some r) ∧ Aside0 (kq ≤ k) ∧ Drawn0 w wc)
 case first =>
  have H := HC2.out; clear HC2; have H' := aM H; clear H
  go_wp2
  go_loopg [0] k (fun kq v0 w' => ∃ (x0_1 : ByteArray), v0 = .string x0_1 ∧ Aside0 (lockageref05_Trim.l0 kq x0_1 = some r) ∧ Aside0 (kq ≤ k) ∧ Drawn0 w w')
  case atStart => exact ⟨(a0), zR, H', ⟨Nat.le_refl _⟩, zD⟩
  case round =>
   clear H'; (try clear c1); (try clear p2); obtain ⟨x0_1, rfl, HA, HK1, ⟨m1, rfl⟩⟩ := hrel; cases gk with
   | zero => exact absurd HA.out (by simp [lockageref05_Trim.l0])
   | succ k1 =>
    have H := HA.out; clear HA; simp only [lockageref05_Trim.l0] at H; by_cases c3 : (x0_1.size : Int) > 0
    ·rw [if_pos c3] at H; have c3b0 := decide_eq_true c3; have c3b1 : decide (0 < x0_1.size) = true := decide_eq_true (by omega); clear c3
     (first | rw [c3b0] | (simp only [i64_w, i32_w]; rw [c3b0]) | skip)
     by_cases c4 : 0 < (x0_1.size : Int)
     ·rw [if_pos c4] at H; have c4b0 := decide_eq_true c4; have c4b1 : decide (0 < x0_1.size) = true := decide_eq_true (by omega); clear c4; replace H := Option.bind_eq_some_iff.mp H; obtain ⟨t250, A60, H⟩ := H; replace H : (if t250 = true then (if 1 ≤ (x0_1.size : Int) then (lockageref05_Trim.l0 k1 (x0_1.extract 1 x0_1.size)) else (none)) else (lockageref05_Trim.j1 k1 x0_1)) = some r := H; have A6 := aM A60; clear A60; by_cases c7 : t250 = true
      ·subst c7; rw [if_pos rfl] at H; by_cases c8 : 1 ≤ (x0_1.size : Int)
       ·rw [if_pos c8] at H; have c8b0 := eq_true c8; have c8b1 := decide_eq_true c8; clear c8; have H' := aM H; clear H; have p5 : 0 ≤ (0 : Int) := (by omega); have q5 : 0 < x0_1.size := (by have : (0 : Int) < (x0_1.size : Int) := of_decide_eq_true zA; omega); have hx5 : ∀ h : 0 < x0_1.size, ((x0_1[0]'h).toNat : Int) = bt x0_1 0 := bt_at x0_1 0; clear p5; have qi5 : (0 < (x0_1.size : Int)) = True := eq_true (of_decide_eq_true zA); replace q5 := eq_true q5
        go_wp2_with (first | (go_at_call 150; (with_reducible refine (lockageref05_blank.calls (bt x0_1 0) true _ A6.out).mono ?_); rintro e w' ⟨rfl, ⟨nd, rfl⟩⟩))
        go_roundg k1
        case measure => have := HK1.out; omega
        case rel => exact ⟨(x0_1.extract 1 x0_1.size), zR, H', ⟨by have := HK1.out; omega⟩, zD⟩
       ·exact zf c8 H
      ·replace c7 := Bool.eq_false_iff.mpr c7; subst c7; rw [if_neg (show ¬ (false = true) by decide)] at H; have H' := aM H; clear H; have p5 : 0 ≤ (0 : Int) := (by omega); have q5 : 0 < x0_1.size := (by have : (0 : Int) < (x0_1.size : Int) := of_decide_eq_true zA; omega); have hx5 : ∀ h : 0 < x0_1.size, ((x0_1[0]'h).toNat : Int) = bt x0_1 0 := bt_at x0_1 0; clear p5; have qi5 : (0 < (x0_1.size : Int)) = True := eq_true (of_decide_eq_true zA); replace q5 := eq_true q5
       go_wp2_with (first | (go_at_call 150; (with_reducible refine (lockageref05_blank.calls (bt x0_1 0) false _ A6.out).mono ?_); rintro e w' ⟨rfl, ⟨nd, rfl⟩⟩))
       go_meet
       case rel => exact ⟨_, (x0_1), zR, H', ⟨by have := HK1.out; first | omega | exact Nat.le_refl _⟩, zD⟩
     ·exact zf c4 H
    ·rw [if_neg c3] at H; have c3b0 := decide_eq_false c3; have c3b1 : decide (0 < x0_1.size) = false := decide_eq_false (by omega); clear c3
     (first | rw [c3b0] | (simp only [i64_w, i32_w]; rw [c3b0]) | skip)
     have H' := aM H; clear H
     go_wp2
     go_meet
     case rel => exact ⟨_, (x0_1), zR, H', ⟨by have := HK1.out; first | omega | exact Nat.le_refl _⟩, zD⟩
 case rest =>
  clear HC2; (try clear c1); (try clear p2); (try clear c3); (try clear c3b0); (try clear c3b1); (try clear c4); (try clear c4b0); (try clear c4b1); (try clear p5); (try clear q5); (try clear hx5); (try clear qi5); (try clear c7); (try clear c8); (try clear c8b0); (try clear c8b1); (try clear p2); (try clear p5); (try clear q5); obtain ⟨kq, x0_1, rfl, HA, HJ1, ⟨mc1, rfl⟩⟩ := hcut; cases kq with
  | zero => exact absurd HA.out (by simp [lockageref05_Trim.j1])
  | succ kj1 =>
   have H := HA.out; clear HA; simp only [lockageref05_Trim.j1] at H; have H' := aM H; clear H
   go_wp2
   go_loopg [0] kj1 (fun kq v0 w' => ∃ (x0_2 : ByteArray), v0 = .string x0_2 ∧ Aside0 (lockageref05_Trim.l1 kq x0_2 = some r) ∧ Aside0 (kq ≤ kj1) ∧ Drawn0 w w')
   case atStart => exact ⟨(x0_1), zR, H', ⟨Nat.le_refl _⟩, zD⟩
   case round =>
    clear H'; (try clear c1); (try clear p2); (try clear c3); (try clear c3b0); (try clear c3b1); (try clear c4); (try clear c4b0); (try clear c4b1); (try clear p5); (try clear q5); (try clear hx5); (try clear qi5); (try clear c7); (try clear c8); (try clear c8b0); (try clear c8b1); (try clear p2); (try clear p5); (try clear q5); obtain ⟨x0_2, rfl, HA, HK2, ⟨m2, rfl⟩⟩ := hrel; cases gk with
    | zero => exact absurd HA.out (by simp [lockageref05_Trim.l1])
    | succ k2 =>
     have H := HA.out; clear HA; simp only [lockageref05_Trim.l1] at H; by_cases c9 : (x0_2.size : Int) > 0
     ·rw [if_pos c9] at H; have c9b0 := decide_eq_true c9; have c9b1 : decide (0 < x0_2.size) = true := decide_eq_true (by omega); clear c9; obtain ⟨ji10, hji10⟩ : ∃ j_ : Int, (wrap64 ((x0_2.size : Int) - 1)) = j_ := ⟨_, rfl⟩
      (first | rw [hji10] at H | simp only [hji10] at H)
      have hji10w : (IntKind.i64.wrap ((x0_2.size : Int) - 1)) = ji10 := (i64_w _).trans hji10; by_cases c11 : 0 ≤ (ji10)
      ·rw [if_pos c11] at H; have c11b0 := decide_eq_true c11; clear c11; by_cases c12 : (ji10) < (x0_2.size : Int)
       ·rw [if_pos c12] at H; have c12b0 := decide_eq_true c12; clear c12; replace H := Option.bind_eq_some_iff.mp H; obtain ⟨t251, A140, H⟩ := H; replace H : (if t251 = true then (if (ji10) ≤ (x0_2.size : Int) then (lockageref05_Trim.l1 k2 (x0_2.extract 0 ((ji10) : Int).toNat)) else (none)) else (some x0_2)) = some r := H; have A14 := aM A140; clear A140; by_cases c15 : t251 = true
        ·subst c15; rw [if_pos rfl] at H; have c16b0 := eq_true (of_decide_eq_true zA : 0 ≤ (ji10)); by_cases c17 : (ji10) ≤ (x0_2.size : Int)
         ·rw [if_pos c17] at H; have c17b0 := eq_true c17; have c17b1 := decide_eq_true c17; clear c17; have H' := aM H; clear H; have p13 : 0 ≤ ((ji10) : Int) := of_decide_eq_true zA; have q13 : (ji10) < (x0_2.size : Int) := of_decide_eq_true zA; have hx13 := bt_at x0_2 (ji10); replace p13 := eq_true p13; replace q13 := eq_true q13
          go_wp2_with (first | (go_at_call 150; (with_reducible refine (lockageref05_blank.calls (bt x0_2 (ji10)) true _ A14.out).mono ?_); rintro e w' ⟨rfl, ⟨nd, rfl⟩⟩))
          go_roundg k2
          case measure => have := HJ1.out; have := HK2.out; omega
          case rel => exact ⟨(x0_2.extract 0 ((ji10) : Int).toNat), (zJ hji10), H', ⟨by have := HJ1.out; have := HK2.out; omega⟩, zD⟩
         ·exact zf c17 H
        ·replace c15 := Bool.eq_false_iff.mpr c15; subst c15; rw [if_neg (show ¬ (false = true) by decide)] at H; obtain rfl := Option.some.inj H; have p13 : 0 ≤ ((ji10) : Int) := of_decide_eq_true zA; have q13 : (ji10) < (x0_2.size : Int) := of_decide_eq_true zA; have hx13 := bt_at x0_2 (ji10); replace p13 := eq_true p13; replace q13 := eq_true q13
         go_wp2_with (first | (go_at_call 150; (with_reducible refine (lockageref05_blank.calls (bt x0_2 (ji10)) false _ A14.out).mono ?_); rintro e w' ⟨rfl, ⟨nd, rfl⟩⟩))
         go_ret
         exact ⟨zJ hji10, zD⟩
       ·exact zf c12 H
      ·exact zf c11 H
     ·rw [if_neg c9] at H; have c9b0 := decide_eq_false c9; have c9b1 : decide (0 < x0_2.size) = false := decide_eq_false (by omega); clear c9; obtain rfl := Option.some.inj H
      go_wp2
      go_ret
      exact ⟨zR, zD⟩

mutual
def lockageref05_Value.l0 : Nat → ByteArray → Int → Option (Bool)
 | 0, _, _ => none
 | k + 1, x0, x3 => if x3 < (x0.size : Int) then (if 0 ≤ x3 then (if (bt x0 x3) = 9 then (lockageref05_Value.j1 k x0 x3 false) else (if (bt x0 x3) < 32 then (lockageref05_Value.j1 k x0 x3 true) else (lockageref05_Value.j1 k x0 x3 (decide ((bt x0 x3) > 126))))) else (none)) else (if (x0.size : Int) ≤ 200 then ((lockageref05_Trim.f k x0).bind fun t252 => (some (t252.toList == x0.toList))) else (some false))
def lockageref05_Value.j1 : Nat → ByteArray → Int → Bool → Option (Bool)
 | 0, _, _, _ => none
 | k + 1, x0, x3, x25 => if x25 = true then (some false) else (lockageref05_Value.l0 k x0 (wrap64 (x3 + 1)))
end
def lockageref05_Value.f (k : Nat) (a0 : ByteArray) : Option (Bool) := lockageref05_Value.l0 k a0 0
theorem lockageref05_Value.mono_l : ∀ k, (∀ y0 y1, LeO (lockageref05_Value.l0 k y0 y1) (lockageref05_Value.l0 (k + 1) y0 y1)) ∧ (∀ y0 y1 y2, LeO (lockageref05_Value.j1 k y0 y1 y2) (lockageref05_Value.j1 (k + 1) y0 y1 y2))
 | 0 => ⟨fun _ _ r h => by simp [lockageref05_Value.l0] at h, fun _ _ _ r h => by simp [lockageref05_Value.j1] at h⟩
 | k + 1 => by
  obtain ⟨ih0, ih1⟩ := lockageref05_Value.mono_l k
  refine ⟨?_, ?_⟩
  ·intro y0 y1
   unfold lockageref05_Value.l0; have m0 := @lockageref05_Trim.mono; exact zM
  ·intro y0 y1 y2
   unfold lockageref05_Value.j1; have m0 := @lockageref05_Trim.mono; exact zM
theorem lockageref05_Value.mono : ∀ a0 k, LeO (lockageref05_Value.f k a0) (lockageref05_Value.f (k + 1) a0) := by
 intro a0 k
 obtain ⟨ih0, ih1⟩ := lockageref05_Value.mono_l k
 unfold lockageref05_Value.f; have m0 := @lockageref05_Trim.mono; exact zM
set_option maxHeartbeats 8000000 in
set_option maxRecDepth 100000 in
theorem lockageref05_Value.calls (k : Nat) (a0 : ByteArray) (r : Bool) (w : World) (h : lockageref05_Value.f k a0 = some r) :
  Calls Tryz.prog 96 #[.string a0] w fun e w' => e = .returned (.bool r) ∧ Drawn0 w w' := by
 have H : (lockageref05_Value.l0 k a0 0) = some r := h; clear h; have H' := aM H; clear H
 go_enter Tryz.func96, Tryz.ntmps96
 go_wp2
 go_loopg [3] k (fun kq v3 w' => ∃ (x3_1 : Int), v3 = .int .i64 x3_1 ∧ Aside0 (lockageref05_Value.l0 kq a0 x3_1 = some r) ∧ Aside0 (kq ≤ k) ∧ Drawn0 w w')
 case atStart => exact ⟨(0), zR, H', ⟨Nat.le_refl _⟩, zD⟩
 case round =>
  clear H'; obtain ⟨x3_1, rfl, HA, HK1, ⟨m1, rfl⟩⟩ := hrel; cases gk with
  | zero => exact absurd HA.out (by simp [lockageref05_Value.l0])
  | succ k1 =>
   have H := HA.out; clear HA; simp only [lockageref05_Value.l0] at H; by_cases c2 : x3_1 < (a0.size : Int)
   ·rw [if_pos c2] at H; have c2b0 := decide_eq_true c2; clear c2; have HC3 := aM H; clear H
    go_upto_region 4 with (fail)
    go_cut [25] (fun v25 wc => ∃ (kq : Nat) (x25_2 : Bool), v25 = .bool x25_2 ∧ Aside0 (lockageref05_Value.j1 kq a0 x3_1 x25_2 = some r) ∧ Aside0 (kq ≤ k1) ∧ Drawn0 w wc)
    case first =>
     have H := HC3.out; clear HC3; by_cases c4 : 0 ≤ x3_1
     ·rw [if_pos c4] at H; have c4b0 := decide_eq_true c4; clear c4
      (first | rw [c4b0] | (simp only [i64_w, i32_w]; rw [c4b0]) | skip)
      by_cases c6 : (bt a0 x3_1) = 9
      ·rw [if_pos c6] at H; obtain ⟨c6b0, c6b1⟩ := zd c6; clear c6; have H' := aM H; clear H; have p5 : 0 ≤ (x3_1 : Int) := of_decide_eq_true zA; have q5 : x3_1 < (a0.size : Int) := of_decide_eq_true zA; have hx5 := bt_at a0 x3_1; replace p5 := eq_true p5; replace q5 := eq_true q5
       go_wp2
       go_meet
       case rel => exact ⟨_, (false), zR, H', ⟨by have := HK1.out; first | omega | exact Nat.le_refl _⟩, zD⟩
      ·rw [if_neg c6] at H; obtain ⟨c6b0, c6b1⟩ := ze c6; by_cases c8 : (bt a0 x3_1) < 32
       ·rw [if_pos c8] at H; have c8b0 := decide_eq_true c8; clear c8; have H' := aM H; clear H; have p5 : 0 ≤ (x3_1 : Int) := of_decide_eq_true zA; have q5 : x3_1 < (a0.size : Int) := of_decide_eq_true zA; have hx5 := bt_at a0 x3_1; replace p5 := eq_true p5; replace q5 := eq_true q5; have p7 : 0 ≤ (x3_1 : Int) := of_decide_eq_true zA; have q7 : x3_1 < (a0.size : Int) := of_decide_eq_true zA; have hx7 := bt_at a0 x3_1; replace p7 := eq_true p7; replace q7 := eq_true q7
        go_wp2
        go_meet
        case rel => exact ⟨_, (true), zR, H', ⟨by have := HK1.out; first | omega | exact Nat.le_refl _⟩, zD⟩
       ·rw [if_neg c8] at H; have c8b0 := decide_eq_false c8; clear c8; have H' := aM H; clear H; have p5 : 0 ≤ (x3_1 : Int) := of_decide_eq_true zA; have q5 : x3_1 < (a0.size : Int) := of_decide_eq_true zA; have hx5 := bt_at a0 x3_1; replace p5 := eq_true p5; replace q5 := eq_true q5; have p7 : 0 ≤ (x3_1 : Int) := of_decide_eq_true zA; have q7 : x3_1 < (a0.size : Int) := of_decide_eq_true zA; have hx7 := bt_at a0 x3_1; replace p7 := eq_true p7; replace q7 := eq_true q7; have p9 : 0 ≤ (x3_1 : Int) := of_decide_eq_true zA; have q9 : x3_1 < (a0.size : Int) := of_decide_eq_true zA; have hx9 := bt_at a0 x3_1; replace p9 := eq_true p9; replace q9 := eq_true q9
        go_wp2
        go_meet
        case rel => exact ⟨_, (decide ((bt a0 x3_1) > 126)), zR, H', ⟨by have := HK1.out; first | omega | exact Nat.le_refl _⟩, zD⟩
     ·exact zf c4 H
    case rest =>
     clear HC3; (try clear c2); (try clear c2b0); (try clear p2); (try clear c4); (try clear c4b0); (try clear p5); (try clear q5); (try clear hx5); (try clear c6); (try clear c6b0); (try clear c6b1); (try clear p7); (try clear q7); (try clear hx7); (try clear c8); (try clear c8b0); (try clear c9); (try clear p9); (try clear q9); (try clear hx9); (try clear p5); (try clear p7); (try clear p9); (try clear q5); (try clear q7); (try clear q9); obtain ⟨kq, x25_2, rfl, HA, HJ2, ⟨mc2, rfl⟩⟩ := hcut; cases kq with
     | zero => exact absurd HA.out (by simp [lockageref05_Value.j1])
     | succ kj2 =>
      have H := HA.out; clear HA; simp only [lockageref05_Value.j1] at H; by_cases c10 : x25_2 = true
      ·subst c10; rw [if_pos rfl] at H; obtain rfl := Option.some.inj H
       go_wp2
       go_ret
       exact ⟨zR, zD⟩
      ·replace c10 := Bool.eq_false_iff.mpr c10; subst c10; rw [if_neg (show ¬ (false = true) by decide)] at H; have H' := aM H; clear H
       go_wp2
       go_roundg kj2
       case measure => have := HK1.out; have := HJ2.out; omega
       case rel => exact ⟨(wrap64 (x3_1 + 1)), zR, H', ⟨by have := HK1.out; have := HJ2.out; omega⟩, zD⟩
   ·rw [if_neg c2] at H; have c2b0 := decide_eq_false c2; clear c2; by_cases c11 : (a0.size : Int) ≤ 200
    ·rw [if_pos c11] at H; have c11b0 := decide_eq_true c11; have c11b1 : decide (a0.size ≤ 200) = true := decide_eq_true (by omega); clear c11; replace H := Option.bind_eq_some_iff.mp H; obtain ⟨t252, A120, H⟩ := H; replace H : (some (t252.toList == a0.toList)) = some r := H; have A12 := aM A120; clear A120; obtain rfl := Option.some.inj H
     go_wp2_with (first | (go_at_call 118; (with_reducible refine (lockageref05_Trim.calls k1 a0 t252 _ A12.out).mono ?_); rintro e w' ⟨rfl, ⟨nd, rfl⟩⟩))
     go_ret
     exact ⟨zR, zD⟩
    ·rw [if_neg c11] at H; have c11b0 := decide_eq_false c11; have c11b1 : decide (a0.size ≤ 200) = false := decide_eq_false (by omega); clear c11; obtain rfl := Option.some.inj H
     go_wp2
     go_ret
     exact ⟨zR, zD⟩

def lockageref06_fields.l0 : Nat → List (S40) → Int → Option (Bool)
 | 0, _, _ => none
 | k + 1, x0, x3 => if x3 < (x0.length : Int) then (if 0 ≤ x3 then ((lockageref05_Name.f k ((rd_T40 x0 x3).f0)).bind fun t254 => (if t254 = true then ((lockageref05_Value.f k ((rd_T40 x0 x3).f1)).bind fun t256 => (if t256 = true then (lockageref06_fields.l0 k x0 (wrap64 (x3 + 1))) else (some false))) else (some false))) else (none)) else (some (decide ((x0.length : Int) ≤ 20)))
def lockageref06_fields.f (k : Nat) (l0 : List (S40)) : Option (Bool) := lockageref06_fields.l0 k l0 0
theorem lockageref06_fields.mono_l : ∀ k, (∀ y0 y1, LeO (lockageref06_fields.l0 k y0 y1) (lockageref06_fields.l0 (k + 1) y0 y1))
 | 0 => fun _ _ r h => by simp [lockageref06_fields.l0] at h
 | k + 1 => by
  have ih0 := lockageref06_fields.mono_l k
  ·intro y0 y1
   unfold lockageref06_fields.l0; have m0 := @lockageref05_Name.mono; have m1 := @lockageref05_Value.mono; exact zM
theorem lockageref06_fields.mono : ∀ a0 k, LeO (lockageref06_fields.f k a0) (lockageref06_fields.f (k + 1) a0) := by
 intro a0 k
 have ih0 := lockageref06_fields.mono_l k
 unfold lockageref06_fields.f; have m0 := @lockageref05_Name.mono; have m1 := @lockageref05_Value.mono; exact zM
set_option maxHeartbeats 8000000 in
set_option maxRecDepth 100000 in
theorem lockageref06_fields.calls (k : Nat) (A0 : Option Addr) (c0 : Nat) (l0 : List (S40)) (r : Bool) (w : World) (hr0 : Kd.C k40 w A0 l0.length l0) (hc0 : l0.length ≤ c0) (h : lockageref06_fields.f k l0 = some r) :
  Calls Tryz.prog 72 #[.slice A0 l0.length c0] w fun e w' => e = .returned (.bool r) ∧ Drawn0 w w' := by
 have HR0 := aM hr0; have HC0 := aM hc0; clear hr0 hc0; have H : (lockageref06_fields.l0 k l0 0) = some r := h; clear h; have H' := aM H; clear H
 go_enter Tryz.func72, Tryz.ntmps72
 go_wp2
 go_loopg [3] k (fun kq v3 w' => ∃ (x3_1 : Int), v3 = .int .i64 x3_1 ∧ Aside0 (lockageref06_fields.l0 kq l0 x3_1 = some r) ∧ Aside0 (kq ≤ k) ∧ Drawn0 w w')
 case atStart => exact ⟨(0), zR, H', ⟨Nat.le_refl _⟩, zD⟩
 case round =>
  clear H'; obtain ⟨x3_1, rfl, HA, HK1, ⟨m1, rfl⟩⟩ := hrel; cases gk with
  | zero => exact absurd HA.out (by simp [lockageref06_fields.l0])
  | succ k1 =>
   have H := HA.out; clear HA; simp only [lockageref06_fields.l0] at H; by_cases c2 : x3_1 < (l0.length : Int)
   ·rw [if_pos c2] at H; have c2b0 := decide_eq_true c2; clear c2; by_cases c3 : 0 ≤ x3_1
    ·rw [if_pos c3] at H; have c3b0 := decide_eq_true c3; clear c3; obtain ⟨t254, A4, H⟩ := zc H; (try dsimp only at H); by_cases c5 : t254 = true
     ·subst c5; rw [if_pos rfl] at H; replace H := Option.bind_eq_some_iff.mp H; obtain ⟨t256, A60, H⟩ := H; replace H : (if t256 = true then (lockageref06_fields.l0 k1 l0 (wrap64 (x3_1 + 1))) else (some false)) = some r := H; have A6 := aM A60; clear A60; by_cases c7 : t256 = true
      ·subst c7; rw [if_pos rfl] at H; have H' := aM H; clear H; have p253 : 0 ≤ (x3_1 : Int) := of_decide_eq_true zA; have q253 : x3_1 < (l0.length : Int) := of_decide_eq_true zA; obtain ⟨ad253, e253, hx253_0, hx253_1⟩ := at_T40 HR0.out x3_1 p253 q253; cases e253; replace p253 := eq_true p253; replace q253 := eq_true q253
       go_wp2_with (first | ((with_reducible refine gate_callee (f := 74) rfl ?_); refine goesL_ (some 15) rfl rfl Tryz.func74 (by kernel_rfl) rfl #[.string ((rd_T40 l0 x3_1).f0)] rfl zL ?_; (with_reducible refine (lockageref05_Name.calls k1 ((rd_T40 l0 x3_1).f0) true _ A4.out).mono ?_); rintro e w' ⟨rfl, ⟨nd, rfl⟩⟩; refine ⟨_, rfl, ?_⟩; have p255 : 0 ≤ (x3_1 : Int) := of_decide_eq_true zA; have q255 : x3_1 < (l0.length : Int) := of_decide_eq_true zA; obtain ⟨ad255, e255, hx255_0, hx255_1⟩ := at_T40 HR0.out x3_1 p255 q255; obtain rfl : ad253 = ad255 := (by injection e255); replace p255 := eq_true p255; replace q255 := eq_true q255) | (go_at_call 96; (with_reducible refine (lockageref05_Value.calls k1 ((rd_T40 l0 x3_1).f1) true _ A6.out).mono ?_); rintro e w' ⟨rfl, ⟨nd, rfl⟩⟩))
       go_roundg k1
       case measure => have := HK1.out; omega
       case rel => exact ⟨(wrap64 (x3_1 + 1)), zR, H', ⟨by have := HK1.out; omega⟩, zD⟩
      ·replace c7 := Bool.eq_false_iff.mpr c7; subst c7; rw [if_neg (show ¬ (false = true) by decide)] at H; obtain rfl := Option.some.inj H; have p253 : 0 ≤ (x3_1 : Int) := of_decide_eq_true zA; have q253 : x3_1 < (l0.length : Int) := of_decide_eq_true zA; obtain ⟨ad253, e253, hx253_0, hx253_1⟩ := at_T40 HR0.out x3_1 p253 q253; cases e253; replace p253 := eq_true p253; replace q253 := eq_true q253
       go_wp2_with (first | ((with_reducible refine gate_callee (f := 74) rfl ?_); refine goesL_ (some 15) rfl rfl Tryz.func74 (by kernel_rfl) rfl #[.string ((rd_T40 l0 x3_1).f0)] rfl zL ?_; (with_reducible refine (lockageref05_Name.calls k1 ((rd_T40 l0 x3_1).f0) true _ A4.out).mono ?_); rintro e w' ⟨rfl, ⟨nd, rfl⟩⟩; refine ⟨_, rfl, ?_⟩; have p255 : 0 ≤ (x3_1 : Int) := of_decide_eq_true zA; have q255 : x3_1 < (l0.length : Int) := of_decide_eq_true zA; obtain ⟨ad255, e255, hx255_0, hx255_1⟩ := at_T40 HR0.out x3_1 p255 q255; obtain rfl : ad253 = ad255 := (by injection e255); replace p255 := eq_true p255; replace q255 := eq_true q255) | (go_at_call 96; (with_reducible refine (lockageref05_Value.calls k1 ((rd_T40 l0 x3_1).f1) false _ A6.out).mono ?_); rintro e w' ⟨rfl, ⟨nd, rfl⟩⟩))
       go_ret
       exact ⟨zR, zD⟩
     ·replace c5 := Bool.eq_false_iff.mpr c5; subst c5; rw [if_neg (show ¬ (false = true) by decide)] at H; obtain rfl := Option.some.inj H; have p253 : 0 ≤ (x3_1 : Int) := of_decide_eq_true zA; have q253 : x3_1 < (l0.length : Int) := of_decide_eq_true zA; obtain ⟨ad253, e253, hx253_0, hx253_1⟩ := at_T40 HR0.out x3_1 p253 q253; cases e253; replace p253 := eq_true p253; replace q253 := eq_true q253
      go_wp2_with (first | ((with_reducible refine gate_callee (f := 74) rfl ?_); refine goesL_ (some 15) rfl rfl Tryz.func74 (by kernel_rfl) rfl #[.string ((rd_T40 l0 x3_1).f0)] rfl zL ?_; (with_reducible refine (lockageref05_Name.calls k1 ((rd_T40 l0 x3_1).f0) false _ A4.out).mono ?_); rintro e w' ⟨rfl, ⟨nd, rfl⟩⟩; refine ⟨_, rfl, ?_⟩))
      go_ret
      exact ⟨zR, zD⟩
    ·exact zf c3 H
   ·rw [if_neg c2] at H; have c2b0 := decide_eq_false c2; clear c2; obtain rfl := Option.some.inj H
    go_wp2
    go_ret
    exact ⟨zR, zD⟩

end Go.Proofs.YtapeodbgobkjeaaGreatDoor.P
namespace Go.Proofs.YtapeodbgobkjeaaGreatDoor.P
open Go.RowKit Go.Proofs.YtapeodbgobkjeaaGreatDoorW.PrintWords Go.Proofs.YtapeodbgobkjeaaGreatDoorW.PrintLast Go.Proofs.YtapeodbgobkjeaaGreatDoorW.PrintMore
attribute [local go_sem] max2_int min2_int max_two min_two max_three min_three max_four min_four   -- for this text's walks alone
set_option linter.unusedVariables false
set_option linter.unusedSimpArgs false

mutual
def lockageref06_reason.l0 : Nat → ByteArray → Int → Option (Bool)
 | 0, _, _ => none
 | k + 1, x0, x3 => if x3 < (x0.size : Int) then (if 0 ≤ x3 then (if (bt x0 x3) = 9 then (lockageref06_reason.j1 k x0 x3 false) else (if (bt x0 x3) < 32 then (lockageref06_reason.j1 k x0 x3 true) else (lockageref06_reason.j1 k x0 x3 (decide ((bt x0 x3) > 126))))) else (none)) else (some (decide ((x0.size : Int) ≤ 200)))
def lockageref06_reason.j1 : Nat → ByteArray → Int → Bool → Option (Bool)
 | 0, _, _, _ => none
 | k + 1, x0, x3, x25 => if x25 = true then (some false) else (lockageref06_reason.l0 k x0 (wrap64 (x3 + 1)))
end
def lockageref06_reason.f (k : Nat) (a0 : ByteArray) : Option (Bool) := lockageref06_reason.l0 k a0 0
theorem lockageref06_reason.mono_l : ∀ k, (∀ y0 y1, LeO (lockageref06_reason.l0 k y0 y1) (lockageref06_reason.l0 (k + 1) y0 y1)) ∧ (∀ y0 y1 y2, LeO (lockageref06_reason.j1 k y0 y1 y2) (lockageref06_reason.j1 (k + 1) y0 y1 y2))
 | 0 => ⟨fun _ _ r h => by simp [lockageref06_reason.l0] at h, fun _ _ _ r h => by simp [lockageref06_reason.j1] at h⟩
 | k + 1 => by
  obtain ⟨ih0, ih1⟩ := lockageref06_reason.mono_l k
  refine ⟨?_, ?_⟩
  ·intro y0 y1
   unfold lockageref06_reason.l0; exact zM
  ·intro y0 y1 y2
   unfold lockageref06_reason.j1; exact zM
theorem lockageref06_reason.mono : ∀ a0 k, LeO (lockageref06_reason.f k a0) (lockageref06_reason.f (k + 1) a0) := by
 intro a0 k
 obtain ⟨ih0, ih1⟩ := lockageref06_reason.mono_l k
 unfold lockageref06_reason.f; exact zM
set_option maxHeartbeats 8000000 in
set_option maxRecDepth 100000 in
theorem lockageref06_reason.calls (k : Nat) (a0 : ByteArray) (r : Bool) (w : World) (h : lockageref06_reason.f k a0 = some r) :
  Calls Tryz.prog 73 #[.string a0] w fun e w' => e = .returned (.bool r) ∧ Drawn0 w w' := by
 have H : (lockageref06_reason.l0 k a0 0) = some r := h; clear h; have H' := aM H; clear H
 go_enter Tryz.func73, Tryz.ntmps73
 go_wp2
 go_loopg [3] k (fun kq v3 w' => ∃ (x3_1 : Int), v3 = .int .i64 x3_1 ∧ Aside0 (lockageref06_reason.l0 kq a0 x3_1 = some r) ∧ Aside0 (kq ≤ k) ∧ Drawn0 w w')
 case atStart => exact ⟨(0), zR, H', ⟨Nat.le_refl _⟩, zD⟩
 case round =>
  clear H'; obtain ⟨x3_1, rfl, HA, HK1, ⟨m1, rfl⟩⟩ := hrel; cases gk with
  | zero => exact absurd HA.out (by simp [lockageref06_reason.l0])
  | succ k1 =>
   have H := HA.out; clear HA; simp only [lockageref06_reason.l0] at H; by_cases c2 : x3_1 < (a0.size : Int)
   ·rw [if_pos c2] at H; have c2b0 := decide_eq_true c2; clear c2; have HC3 := aM H; clear H
    go_upto_region 4 with (fail)
    go_cut [25] (fun v25 wc => ∃ (kq : Nat) (x25_2 : Bool), v25 = .bool x25_2 ∧ Aside0 (lockageref06_reason.j1 kq a0 x3_1 x25_2 = some r) ∧ Aside0 (kq ≤ k1) ∧ Drawn0 w wc)
    case first =>
     have H := HC3.out; clear HC3; by_cases c4 : 0 ≤ x3_1
     ·rw [if_pos c4] at H; have c4b0 := decide_eq_true c4; clear c4
      (first | rw [c4b0] | (simp only [i64_w, i32_w]; rw [c4b0]) | skip)
      by_cases c6 : (bt a0 x3_1) = 9
      ·rw [if_pos c6] at H; obtain ⟨c6b0, c6b1⟩ := zd c6; clear c6; have H' := aM H; clear H; have p5 : 0 ≤ (x3_1 : Int) := of_decide_eq_true zA; have q5 : x3_1 < (a0.size : Int) := of_decide_eq_true zA; have hx5 := bt_at a0 x3_1; replace p5 := eq_true p5; replace q5 := eq_true q5
       go_wp2
       go_meet
       case rel => exact ⟨_, (false), zR, H', ⟨by have := HK1.out; first | omega | exact Nat.le_refl _⟩, zD⟩
      ·rw [if_neg c6] at H; obtain ⟨c6b0, c6b1⟩ := ze c6; by_cases c8 : (bt a0 x3_1) < 32
       ·rw [if_pos c8] at H; have c8b0 := decide_eq_true c8; clear c8; have H' := aM H; clear H; have p5 : 0 ≤ (x3_1 : Int) := of_decide_eq_true zA; have q5 : x3_1 < (a0.size : Int) := of_decide_eq_true zA; have hx5 := bt_at a0 x3_1; replace p5 := eq_true p5; replace q5 := eq_true q5; have p7 : 0 ≤ (x3_1 : Int) := of_decide_eq_true zA; have q7 : x3_1 < (a0.size : Int) := of_decide_eq_true zA; have hx7 := bt_at a0 x3_1; replace p7 := eq_true p7; replace q7 := eq_true q7
        go_wp2
        go_meet
        case rel => exact ⟨_, (true), zR, H', ⟨by have := HK1.out; first | omega | exact Nat.le_refl _⟩, zD⟩
       ·rw [if_neg c8] at H; have c8b0 := decide_eq_false c8; clear c8; have H' := aM H; clear H; have p5 : 0 ≤ (x3_1 : Int) := of_decide_eq_true zA; have q5 : x3_1 < (a0.size : Int) := of_decide_eq_true zA; have hx5 := bt_at a0 x3_1; replace p5 := eq_true p5; replace q5 := eq_true q5; have p7 : 0 ≤ (x3_1 : Int) := of_decide_eq_true zA; have q7 : x3_1 < (a0.size : Int) := of_decide_eq_true zA; have hx7 := bt_at a0 x3_1; replace p7 := eq_true p7; replace q7 := eq_true q7; have p9 : 0 ≤ (x3_1 : Int) := of_decide_eq_true zA; have q9 : x3_1 < (a0.size : Int) := of_decide_eq_true zA; have hx9 := bt_at a0 x3_1; replace p9 := eq_true p9; replace q9 := eq_true q9
        go_wp2
        go_meet
        case rel => exact ⟨_, (decide ((bt a0 x3_1) > 126)), zR, H', ⟨by have := HK1.out; first | omega | exact Nat.le_refl _⟩, zD⟩
     ·exact zf c4 H
    case rest =>
     clear HC3; (try clear c2); (try clear c2b0); (try clear p2); (try clear c4); (try clear c4b0); (try clear p5); (try clear q5); (try clear hx5); (try clear c6); (try clear c6b0); (try clear c6b1); (try clear c7); (try clear p7); (try clear q7); (try clear hx7); (try clear c8); (try clear c8b0); (try clear p9); (try clear q9); (try clear hx9); (try clear p5); (try clear p7); (try clear p9); (try clear q5); (try clear q7); (try clear q9); obtain ⟨kq, x25_2, rfl, HA, HJ2, ⟨mc2, rfl⟩⟩ := hcut; cases kq with
     | zero => exact absurd HA.out (by simp [lockageref06_reason.j1])
     | succ kj2 =>
      have H := HA.out; clear HA; simp only [lockageref06_reason.j1] at H; by_cases c10 : x25_2 = true
      ·subst c10; rw [if_pos rfl] at H; obtain rfl := Option.some.inj H
       go_wp2
       go_ret
       exact ⟨zR, zD⟩
      ·replace c10 := Bool.eq_false_iff.mpr c10; subst c10; rw [if_neg (show ¬ (false = true) by decide)] at H; have H' := aM H; clear H
       go_wp2
       go_roundg kj2
       case measure => have := HK1.out; have := HJ2.out; omega
       case rel => exact ⟨(wrap64 (x3_1 + 1)), zR, H', ⟨by have := HK1.out; have := HJ2.out; omega⟩, zD⟩
   ·rw [if_neg c2] at H; have c2b0 := decide_eq_false c2; clear c2; obtain rfl := Option.some.inj H
    go_wp2
    go_ret
    exact ⟨zR, zD⟩

def lockageref06_target.l0 : Nat → ByteArray → Int → Option (Bool)
 | 0, _, _ => none
 | k + 1, x0, x3 => if x3 < (x0.size : Int) then (if 0 ≤ x3 then (if (bt x0 x3) < 33 then (some false) else (if (bt x0 x3) > 126 then (some false) else (lockageref06_target.l0 k x0 (wrap64 (x3 + 1))))) else (none)) else (if x0.toList = ([] : List UInt8) then (some false) else (some (decide ((x0.size : Int) ≤ 200))))
def lockageref06_target.f (k : Nat) (a0 : ByteArray) : Option (Bool) := lockageref06_target.l0 k a0 0
theorem lockageref06_target.mono_l : ∀ k, (∀ y0 y1, LeO (lockageref06_target.l0 k y0 y1) (lockageref06_target.l0 (k + 1) y0 y1))
 | 0 => fun _ _ r h => by simp [lockageref06_target.l0] at h
 | k + 1 => by
  have ih0 := lockageref06_target.mono_l k
  ·intro y0 y1
   unfold lockageref06_target.l0; exact zM
theorem lockageref06_target.mono : ∀ a0 k, LeO (lockageref06_target.f k a0) (lockageref06_target.f (k + 1) a0) := by
 intro a0 k
 have ih0 := lockageref06_target.mono_l k
 unfold lockageref06_target.f; exact zM
set_option maxHeartbeats 8000000 in
set_option maxRecDepth 100000 in
theorem lockageref06_target.calls (k : Nat) (a0 : ByteArray) (r : Bool) (w : World) (h : lockageref06_target.f k a0 = some r) :
  Calls Tryz.prog 75 #[.string a0] w fun e w' => e = .returned (.bool r) ∧ Drawn0 w w' := by
 have H : (lockageref06_target.l0 k a0 0) = some r := h; clear h; have H' := aM H; clear H
 go_enter Tryz.func75, Tryz.ntmps75
 go_wp2
 go_loopg [3] k (fun kq v3 w' => ∃ (x3_1 : Int), v3 = .int .i64 x3_1 ∧ Aside0 (lockageref06_target.l0 kq a0 x3_1 = some r) ∧ Aside0 (kq ≤ k) ∧ Drawn0 w w')
 case atStart => exact ⟨(0), zR, H', ⟨Nat.le_refl _⟩, zD⟩
 case round =>
  clear H'; obtain ⟨x3_1, rfl, HA, HK1, ⟨m1, rfl⟩⟩ := hrel; cases gk with
  | zero => exact absurd HA.out (by simp [lockageref06_target.l0])
  | succ k1 =>
   have H := HA.out; clear HA; simp only [lockageref06_target.l0] at H; by_cases c2 : x3_1 < (a0.size : Int)
   ·rw [if_pos c2] at H; have c2b0 := decide_eq_true c2; clear c2; by_cases c3 : 0 ≤ x3_1
    ·rw [if_pos c3] at H; have c3b0 := decide_eq_true c3; clear c3; by_cases c5 : (bt a0 x3_1) < 33
     ·rw [if_pos c5] at H; have c5b0 := decide_eq_true c5; clear c5; obtain rfl := Option.some.inj H; have p4 : 0 ≤ (x3_1 : Int) := of_decide_eq_true zA; have q4 : x3_1 < (a0.size : Int) := of_decide_eq_true zA; have hx4 := bt_at a0 x3_1; replace p4 := eq_true p4; replace q4 := eq_true q4
      go_wp2
      go_ret
      exact ⟨zR, zD⟩
     ·rw [if_neg c5] at H; have c5b0 := decide_eq_false c5; clear c5; by_cases c7 : (bt a0 x3_1) > 126
      ·rw [if_pos c7] at H; have c7b0 := decide_eq_true c7; clear c7; obtain rfl := Option.some.inj H; have p4 : 0 ≤ (x3_1 : Int) := of_decide_eq_true zA; have q4 : x3_1 < (a0.size : Int) := of_decide_eq_true zA; have hx4 := bt_at a0 x3_1; replace p4 := eq_true p4; replace q4 := eq_true q4; have p6 : 0 ≤ (x3_1 : Int) := of_decide_eq_true zA; have q6 : x3_1 < (a0.size : Int) := of_decide_eq_true zA; have hx6 := bt_at a0 x3_1; replace p6 := eq_true p6; replace q6 := eq_true q6
       go_wp2
       go_ret
       exact ⟨zR, zD⟩
      ·rw [if_neg c7] at H; have c7b0 := decide_eq_false c7; clear c7; have H' := aM H; clear H; have p4 : 0 ≤ (x3_1 : Int) := of_decide_eq_true zA; have q4 : x3_1 < (a0.size : Int) := of_decide_eq_true zA; have hx4 := bt_at a0 x3_1; replace p4 := eq_true p4; replace q4 := eq_true q4; have p6 : 0 ≤ (x3_1 : Int) := of_decide_eq_true zA; have q6 : x3_1 < (a0.size : Int) := of_decide_eq_true zA; have hx6 := bt_at a0 x3_1; replace p6 := eq_true p6; replace q6 := eq_true q6
       go_wp2
       go_roundg k1
       case measure => have := HK1.out; omega
       case rel => exact ⟨(wrap64 (x3_1 + 1)), zR, H', ⟨by have := HK1.out; omega⟩, zD⟩
    ·exact zf c3 H
   ·rw [if_neg c2] at H; have c2b0 := decide_eq_false c2; clear c2; by_cases c8 : a0.toList = ([] : List UInt8)
    ·rw [if_pos c8] at H; obtain ⟨c8b0, c8b1⟩ := zd c8; clear c8; obtain rfl := Option.some.inj H
     go_wp2
     go_ret
     exact ⟨zR, zD⟩
    ·rw [if_neg c8] at H; obtain ⟨c8b0, c8b1⟩ := ze c8; obtain rfl := Option.some.inj H
     go_wp2
     go_ret
     exact ⟨zR, zD⟩

def lockageref06_Right.j0 : Nat → Bool → Bool → ByteArray → ByteArray → Int → ByteArray → Int → List (S40) → Option (Bool)
 | 0, _, _, _, _, _, _, _, _ => none
 | k + 1, x1, x18, x258000, x258001, x258002, x258003, x258004, x258005 => if x18 = true then (some false) else (if x1 = true then (if x258000.toList = ([] : List UInt8) then (if x258001.toList = ([] : List UInt8) then (if x258002 ≥ 100 then (if x258002 ≤ 599 then ((lockageref06_reason.f k x258003).bind fun t259 => (some t259)) else (some false)) else (some false)) else (some false)) else (some false)) else ((lockageref05_Name.f k x258000).bind fun t260 => (if t260 = true then ((lockageref06_target.f k x258001).bind fun t261 => (if t261 = true then (if x258002 = 0 then (some (x258003.toList == ([] : List UInt8))) else (some false)) else (some false))) else (some false))))
def lockageref06_Right.f (k : Nat) (a0_0 : ByteArray) (a0_1 : ByteArray) (a0_2 : Int) (a0_3 : ByteArray) (a0_4 : Int) (l0_5 : List (S40)) (a1 : Bool) : Option (Bool) := if a0_4 < 0 then (lockageref06_Right.j0 k a1 true a0_0 a0_1 a0_2 a0_3 a0_4 l0_5) else (if a0_4 > 1 then (lockageref06_Right.j0 k a1 true a0_0 a0_1 a0_2 a0_3 a0_4 l0_5) else ((lockageref06_fields.f k l0_5).bind fun t258 => (lockageref06_Right.j0 k a1 (!t258) a0_0 a0_1 a0_2 a0_3 a0_4 l0_5)))
theorem lockageref06_Right.mono_l : ∀ k, (∀ y0 y1 y2 y3 y4 y5 y6 y7, LeO (lockageref06_Right.j0 k y0 y1 y2 y3 y4 y5 y6 y7) (lockageref06_Right.j0 (k + 1) y0 y1 y2 y3 y4 y5 y6 y7))
 | 0 => fun _ _ _ _ _ _ _ _ r h => by simp [lockageref06_Right.j0] at h
 | k + 1 => by
  have ih0 := lockageref06_Right.mono_l k
  ·intro y0 y1 y2 y3 y4 y5 y6 y7
   unfold lockageref06_Right.j0; have m0 := @lockageref05_Name.mono; have m1 := @lockageref06_fields.mono; have m2 := @lockageref06_reason.mono; have m3 := @lockageref06_target.mono; exact zM
theorem lockageref06_Right.mono : ∀ a0 a1 a2 a3 a4 a5 a6 k, LeO (lockageref06_Right.f k a0 a1 a2 a3 a4 a5 a6) (lockageref06_Right.f (k + 1) a0 a1 a2 a3 a4 a5 a6) := by
 intro a0 a1 a2 a3 a4 a5 a6 k
 have ih0 := lockageref06_Right.mono_l k
 unfold lockageref06_Right.f; have m0 := @lockageref05_Name.mono; have m1 := @lockageref06_fields.mono; have m2 := @lockageref06_reason.mono; have m3 := @lockageref06_target.mono; exact zM
set_option maxHeartbeats 8000000 in
set_option maxRecDepth 100000 in
theorem lockageref06_Right.calls (k : Nat) (a0_0 : ByteArray) (a0_1 : ByteArray) (a0_2 : Int) (a0_3 : ByteArray) (a0_4 : Int) (A0_5 : Option Addr) (c0_5 : Nat) (l0_5 : List (S40)) (a1 : Bool) (r : Bool) (w : World) (hr0_5 : Kd.C k40 w A0_5 l0_5.length l0_5) (hc0_5 : l0_5.length ≤ c0_5) (h : lockageref06_Right.f k a0_0 a0_1 a0_2 a0_3 a0_4 l0_5 a1 = some r) :
  Calls Tryz.prog 47 #[.agg #[.string a0_0, .string a0_1, .int .i64 a0_2, .string a0_3, .int .i64 a0_4, .slice A0_5 l0_5.length c0_5], .bool a1] w fun e w' => e = .returned (.bool r) ∧ Below w.heap.size w w' := by
 have hu29 := Tryz.underlying29; have HR0_5 := aM hr0_5; have HC0_5 := aM hc0_5; clear hr0_5 hc0_5; have HB := aM (Below.refl w.heap.size w); have H := h; unfold lockageref06_Right.f at H; clear h; have HC3 := aM H; clear H
 go_enter Tryz.func47, Tryz.ntmps47
 go_upto_region 1 with (first | ((with_reducible refine gate_dst (N := 2) rfl ?_); refine box_event ?hg (N := 2) ?hd (cs := #[.string a0_0, .string a0_1, .int .i64 a0_2, .string a0_3, .int .i64 a0_4, .slice A0_5 l0_5.length c0_5]) (t := 29) ?hr ?_; (case hd => rfl); (case hg => rfl); (case hr => exact zG); intro gb257 hg w4 hbox hb; have BK257 := aM hbox; have GW257 := aM (by rw [hg]; exact (below_size zB) : w.heap.size ≤ gb257); replace HB := aM (below_step zB hb); have GE257 := GW257; clear hb hbox hg))
 (try simp only [Act.put, List.setIfInBounds_toArray, List.set_cons_zero, List.set_cons_succ])
 go_cut [18] (fun v18 wc => ∃ (kq : Nat) (x18_2 : Bool), v18 = .bool x18_2 ∧ Aside0 (lockageref06_Right.j0 kq a1 x18_2 a0_0 a0_1 a0_2 a0_3 a0_4 l0_5 = some r) ∧ Aside0 (kq ≤ k) ∧ Aside0 (wc.heap[gb257]? = some (.cells #[.string a0_0, .string a0_1, .int .i64 a0_2, .string a0_3, .int .i64 a0_4, (.slice A0_5 l0_5.length c0_5)] 29 (0, 0))) ∧ Aside0 (Below w.heap.size w wc))
 case first =>
  have H := HC3.out; clear HC3; by_cases c5 : a0_4 < 0
  ·rw [if_pos c5] at H; have c5b0 := decide_eq_true c5; clear c5
   (first | rw [c5b0] | (simp only [i64_w, i32_w]; rw [c5b0]) | skip)
   have H' := aM H; clear H; obtain ⟨_, _, _, _, _, _, _, _, _, _, _, _⟩ := cz6 BK257.out
   go_wp2
   go_meet
   case rel => exact ⟨_, (true), zR, H', ⟨by first | omega | exact Nat.le_refl _⟩, ⟨zK BK257.out⟩, ⟨zB⟩⟩
  ·rw [if_neg c5] at H; have c5b0 := decide_eq_false c5; clear c5
   (first | rw [c5b0] | (simp only [i64_w, i32_w]; rw [c5b0]) | skip)
   by_cases c7 : a0_4 > 1
   ·rw [if_pos c7] at H; have c7b0 := decide_eq_true c7; clear c7; have H' := aM H; clear H; obtain ⟨_, _, _, _, _, _, _, _, _, _, _, _⟩ := cz6 BK257.out
    go_wp2
    go_meet
    case rel => exact ⟨_, (true), zR, H', ⟨by first | omega | exact Nat.le_refl _⟩, ⟨zK BK257.out⟩, ⟨zB⟩⟩
   ·rw [if_neg c7] at H; have c7b0 := decide_eq_false c7; clear c7; replace H := Option.bind_eq_some_iff.mp H; obtain ⟨t258, A90, H⟩ := H; replace H : (lockageref06_Right.j0 k a1 (!t258) a0_0 a0_1 a0_2 a0_3 a0_4 l0_5) = some r := H; have A9 := aM A90; clear A90; have H' := aM H; clear H; obtain ⟨_, _, _, _, _, _, _, _, _, _, _, _⟩ := cz6 BK257.out
    go_wp2_with (first | (go_at_call 72; (with_reducible refine (lockageref06_fields.calls k _ _ l0_5 t258 _ ?side1 ?side2 A9.out).mono ?_); (case side1 => exact zC (Kd.C_below HR0_5.out HB.out)); (case side2 => exact HC0_5.out); rintro e w' ⟨rfl, ⟨nd, rfl⟩⟩))
    go_meet
    case rel => exact ⟨_, (!t258), zR, H', ⟨by first | omega | exact Nat.le_refl _⟩, ⟨zK BK257.out⟩, ⟨zB⟩⟩
 case rest =>
  clear HC3; (try clear p2); (try clear c4); (try clear c5); (try clear c5b0); (try clear c7); (try clear c7b0); obtain ⟨kq, x18_2, rfl, HA, HJ2, BK257, HB⟩ := hcut; cases kq with
  | zero => exact absurd HA.out (by simp [lockageref06_Right.j0])
  | succ kj2 =>
   have H := HA.out; clear HA; simp only [lockageref06_Right.j0] at H; by_cases c11 : x18_2 = true
   ·subst c11; rw [if_pos rfl] at H; obtain rfl := Option.some.inj H
    go_wp2
    go_ret
    exact ⟨zE, zB⟩
   ·replace c11 := Bool.eq_false_iff.mpr c11; subst c11; rw [if_neg (show ¬ (false = true) by decide)] at H; by_cases c12 : a1 = true
    ·subst c12; rw [if_pos rfl] at H; by_cases c13 : a0_0.toList = ([] : List UInt8)
     ·rw [if_pos c13] at H; obtain ⟨c13b0, c13b1⟩ := zd c13; clear c13; by_cases c14 : a0_1.toList = ([] : List UInt8)
      ·rw [if_pos c14] at H; obtain ⟨c14b0, c14b1⟩ := zd c14; clear c14; by_cases c15 : a0_2 ≥ 100
       ·rw [if_pos c15] at H; have c15b0 := decide_eq_true c15; clear c15; by_cases c16 : a0_2 ≤ 599
        ·rw [if_pos c16] at H; have c16b0 := decide_eq_true c16; clear c16; replace H := Option.bind_eq_some_iff.mp H; obtain ⟨t259, A170, H⟩ := H; replace H : (some t259) = some r := H; have A17 := aM A170; clear A170; obtain rfl := Option.some.inj H; obtain ⟨_, _, _, _, _, _, _, _, _, _, _, _⟩ := cz6 BK257.out
         go_wp2_with (first | (go_at_call 73; (with_reducible refine (lockageref06_reason.calls kj2 a0_3 t259 _ A17.out).mono ?_); rintro e w' ⟨rfl, ⟨nd, rfl⟩⟩))
         go_ret
         exact ⟨zE, zB⟩
        ·rw [if_neg c16] at H; have c16b0 := decide_eq_false c16; clear c16; obtain rfl := Option.some.inj H; obtain ⟨_, _, _, _, _, _, _, _, _, _, _, _⟩ := cz6 BK257.out
         go_wp2
         go_ret
         exact ⟨zE, zB⟩
       ·rw [if_neg c15] at H; have c15b0 := decide_eq_false c15; clear c15; obtain rfl := Option.some.inj H; obtain ⟨_, _, _, _, _, _, _, _, _, _, _, _⟩ := cz6 BK257.out
        go_wp2
        go_ret
        exact ⟨zE, zB⟩
      ·rw [if_neg c14] at H; obtain ⟨c14b0, c14b1⟩ := ze c14; obtain rfl := Option.some.inj H; obtain ⟨_, _, _, _, _, _, _, _, _, _, _, _⟩ := cz6 BK257.out
       go_wp2
       go_ret
       exact ⟨zE, zB⟩
     ·rw [if_neg c13] at H; obtain ⟨c13b0, c13b1⟩ := ze c13; obtain rfl := Option.some.inj H; obtain ⟨_, _, _, _, _, _, _, _, _, _, _, _⟩ := cz6 BK257.out
      go_wp2
      go_ret
      exact ⟨zE, zB⟩
    ·replace c12 := Bool.eq_false_iff.mpr c12; subst c12; rw [if_neg (show ¬ (false = true) by decide)] at H; obtain ⟨t260, A23, H⟩ := zc H; (try dsimp only at H); by_cases c24 : t260 = true
     ·subst c24; rw [if_pos rfl] at H; replace H := Option.bind_eq_some_iff.mp H; obtain ⟨t261, A250, H⟩ := H; replace H : (if t261 = true then (if a0_2 = 0 then (some (a0_3.toList == ([] : List UInt8))) else (some false)) else (some false)) = some r := H; have A25 := aM A250; clear A250; by_cases c26 : t261 = true
      ·subst c26; rw [if_pos rfl] at H; by_cases c27 : a0_2 = 0
       ·rw [if_pos c27] at H; obtain ⟨c27b0, c27b1⟩ := zd c27; clear c27; obtain rfl := Option.some.inj H; obtain ⟨_, _, _, _, _, _, _, _, _, _, _, _⟩ := cz6 BK257.out
        go_wp2_with (first | ((with_reducible refine gate_callee (f := 74) rfl ?_); refine goesL_ (some 45) rfl rfl Tryz.func74 (by kernel_rfl) rfl #[.string a0_0] rfl zL ?_; (with_reducible refine (lockageref05_Name.calls kj2 a0_0 true _ A23.out).mono ?_); rintro e w' ⟨rfl, ⟨nd, rfl⟩⟩; refine ⟨_, rfl, ?_⟩) | (go_at_call 75; (with_reducible refine (lockageref06_target.calls kj2 a0_1 true _ A25.out).mono ?_); rintro e w' ⟨rfl, ⟨nd, rfl⟩⟩))
        go_ret
        exact ⟨zE, zB⟩
       ·rw [if_neg c27] at H; obtain ⟨c27b0, c27b1⟩ := ze c27; obtain rfl := Option.some.inj H; obtain ⟨_, _, _, _, _, _, _, _, _, _, _, _⟩ := cz6 BK257.out
        go_wp2_with (first | ((with_reducible refine gate_callee (f := 74) rfl ?_); refine goesL_ (some 45) rfl rfl Tryz.func74 (by kernel_rfl) rfl #[.string a0_0] rfl zL ?_; (with_reducible refine (lockageref05_Name.calls kj2 a0_0 true _ A23.out).mono ?_); rintro e w' ⟨rfl, ⟨nd, rfl⟩⟩; refine ⟨_, rfl, ?_⟩) | (go_at_call 75; (with_reducible refine (lockageref06_target.calls kj2 a0_1 true _ A25.out).mono ?_); rintro e w' ⟨rfl, ⟨nd, rfl⟩⟩))
        go_ret
        exact ⟨zE, zB⟩
      ·replace c26 := Bool.eq_false_iff.mpr c26; subst c26; rw [if_neg (show ¬ (false = true) by decide)] at H; obtain rfl := Option.some.inj H; obtain ⟨_, _, _, _, _, _, _, _, _, _, _, _⟩ := cz6 BK257.out
       go_wp2_with (first | ((with_reducible refine gate_callee (f := 74) rfl ?_); refine goesL_ (some 45) rfl rfl Tryz.func74 (by kernel_rfl) rfl #[.string a0_0] rfl zL ?_; (with_reducible refine (lockageref05_Name.calls kj2 a0_0 true _ A23.out).mono ?_); rintro e w' ⟨rfl, ⟨nd, rfl⟩⟩; refine ⟨_, rfl, ?_⟩) | (go_at_call 75; (with_reducible refine (lockageref06_target.calls kj2 a0_1 false _ A25.out).mono ?_); rintro e w' ⟨rfl, ⟨nd, rfl⟩⟩))
       go_ret
       exact ⟨zE, zB⟩
     ·replace c24 := Bool.eq_false_iff.mpr c24; subst c24; rw [if_neg (show ¬ (false = true) by decide)] at H; obtain rfl := Option.some.inj H; obtain ⟨_, _, _, _, _, _, _, _, _, _, _, _⟩ := cz6 BK257.out
      go_wp2_with (first | ((with_reducible refine gate_callee (f := 74) rfl ?_); refine goesL_ (some 45) rfl rfl Tryz.func74 (by kernel_rfl) rfl #[.string a0_0] rfl zL ?_; (with_reducible refine (lockageref05_Name.calls kj2 a0_0 false _ A23.out).mono ?_); rintro e w' ⟨rfl, ⟨nd, rfl⟩⟩; refine ⟨_, rfl, ?_⟩))
      go_ret
      exact ⟨zE, zB⟩

end Go.Proofs.YtapeodbgobkjeaaGreatDoor.P
