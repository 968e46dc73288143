/- Printed by a program of the session out of the translation: plain Lean functions, each with the contract that the Go function computes it. -/
import Derived.Test.YtemhokkfefidlaaGreatDoorHZ
import Derived.Test.YtemhokkfefidlaaGreatDoorPx0
namespace Go.Proofs.YtemhokkfefidlaaGreatDoor.P
open Go.RowKit Go.Proofs.YtemhokkfefidlaaGreatDoorW.PrintWords Go.Proofs.YtemhokkfefidlaaGreatDoorW.PrintLast Go.Proofs.YtemhokkfefidlaaGreatDoorW.PrintMore
attribute [local go_sem] max2_int min2_int max_two min_two max_three min_three max_four min_four   -- for this text's walks alone
set_option linter.unusedVariables false
set_option linter.unusedSimpArgs false

mutual
def lockageref03_value.j2 : Nat → Int → Int → Option (Int)
 | 0, _, _ => none
 | k + 1, x1, x5 => if x5 ≥ x1 then (some (-1)) else (some x5)
def lockageref03_value.j0 : Nat → Int → Int → Int → Bool → Option (Int)
 | 0, _, _, _, _ => none
 | k + 1, x0, x1, x5, x6 => if x6 = true then (lockageref03_value.j2 k x1 ((x0 - 48) % 256)) else (if x0 ≥ 97 then (lockageref03_value.j1 k x0 x1 x5 (decide (x0 ≤ 102))) else (lockageref03_value.j1 k x0 x1 x5 false))
def lockageref03_value.j1 : Nat → Int → Int → Int → Bool → Option (Int)
 | 0, _, _, _, _ => none
 | k + 1, x0, x1, x5, x16 => if x16 = true then (lockageref03_value.j2 k x1 (((x0 - 97) % 256) + 10)) else (if x0 ≥ 65 then (if x0 ≤ 70 then (lockageref03_value.j2 k x1 (((x0 - 65) % 256) + 10)) else (lockageref03_value.j2 k x1 x5)) else (lockageref03_value.j2 k x1 x5))
end
def lockageref03_value.f (k : Nat) (a0 : Int) (a1 : Int) : Option (Int) := if a0 ≥ 48 then (lockageref03_value.j0 k a0 a1 (-1) (decide (a0 ≤ 57))) else (lockageref03_value.j0 k a0 a1 (-1) false)
theorem lockageref03_value.mono_l : ∀ k, (∀ y0 y1, LeO (lockageref03_value.j2 k y0 y1) (lockageref03_value.j2 (k + 1) y0 y1)) ∧ (∀ y0 y1 y2 y3, LeO (lockageref03_value.j0 k y0 y1 y2 y3) (lockageref03_value.j0 (k + 1) y0 y1 y2 y3)) ∧ (∀ y0 y1 y2 y3, LeO (lockageref03_value.j1 k y0 y1 y2 y3) (lockageref03_value.j1 (k + 1) y0 y1 y2 y3))
 | 0 => ⟨fun _ _ r h => by simp [lockageref03_value.j2] at h, fun _ _ _ _ r h => by simp [lockageref03_value.j0] at h, fun _ _ _ _ r h => by simp [lockageref03_value.j1] at h⟩
 | k + 1 => by
  obtain ⟨ih0, ih1, ih2⟩ := lockageref03_value.mono_l k
  refine ⟨?_, ?_, ?_⟩
  ·intro y0 y1
   unfold lockageref03_value.j2
   repeat' first
   | (with_reducible exact ih0 _ _)
   | (with_reducible exact ih1 _ _ _ _)
   | (with_reducible exact ih2 _ _ _ _)
   | (with_reducible exact LeO.refl _)
   | (with_reducible exact LeO.none _)
   | (with_reducible refine LeO.ite ?_ ?_)
   | (with_reducible refine LeO.bind ?_ (fun _ => ?_))
   | exact ih0 _ _
   | exact ih1 _ _ _ _
   | exact ih2 _ _ _ _
   | exact LeO.none _
   | refine LeO.ite ?_ ?_
   | refine LeO.bind ?_ (fun _ => ?_)
  ·intro y0 y1 y2 y3
   unfold lockageref03_value.j0
   repeat' first
   | (with_reducible exact ih0 _ _)
   | (with_reducible exact ih1 _ _ _ _)
   | (with_reducible exact ih2 _ _ _ _)
   | (with_reducible exact LeO.refl _)
   | (with_reducible exact LeO.none _)
   | (with_reducible refine LeO.ite ?_ ?_)
   | (with_reducible refine LeO.bind ?_ (fun _ => ?_))
   | exact ih0 _ _
   | exact ih1 _ _ _ _
   | exact ih2 _ _ _ _
   | exact LeO.none _
   | refine LeO.ite ?_ ?_
   | refine LeO.bind ?_ (fun _ => ?_)
  ·intro y0 y1 y2 y3
   unfold lockageref03_value.j1
   repeat' first
   | (with_reducible exact ih0 _ _)
   | (with_reducible exact ih1 _ _ _ _)
   | (with_reducible exact ih2 _ _ _ _)
   | (with_reducible exact LeO.refl _)
   | (with_reducible exact LeO.none _)
   | (with_reducible refine LeO.ite ?_ ?_)
   | (with_reducible refine LeO.bind ?_ (fun _ => ?_))
   | exact ih0 _ _
   | exact ih1 _ _ _ _
   | exact ih2 _ _ _ _
   | exact LeO.none _
   | refine LeO.ite ?_ ?_
   | refine LeO.bind ?_ (fun _ => ?_)
theorem lockageref03_value.mono : ∀ a0 a1 k, LeO (lockageref03_value.f k a0 a1) (lockageref03_value.f (k + 1) a0 a1) := by
 intro a0 a1 k
 obtain ⟨ih0, ih1, ih2⟩ := lockageref03_value.mono_l k
 unfold lockageref03_value.f
 repeat' first
   | (with_reducible exact ih0 _ _)
   | (with_reducible exact ih1 _ _ _ _)
   | (with_reducible exact ih2 _ _ _ _)
   | (with_reducible exact LeO.refl _)
   | (with_reducible exact LeO.none _)
   | (with_reducible refine LeO.ite ?_ ?_)
   | (with_reducible refine LeO.bind ?_ (fun _ => ?_))
   | exact ih0 _ _
   | exact ih1 _ _ _ _
   | exact ih2 _ _ _ _
   | exact LeO.none _
   | refine LeO.ite ?_ ?_
   | refine LeO.bind ?_ (fun _ => ?_)
set_option maxHeartbeats 8000000 in
set_option maxRecDepth 100000 in
theorem lockageref03_value.calls (k : Nat) (a0 : Int) (a1 : Int) (r : Int) (w : World) (h : lockageref03_value.f k a0 a1 = some r) :
  Calls Tryz.prog 85 #[.int .u8 a0, .int .i64 a1] w fun e w' => e = .returned (.int .i64 r) ∧ Drawn0 w w' := by
 have H : (if a0 ≥ 48 then (lockageref03_value.j0 k a0 a1 (-1) (decide (a0 ≤ 57))) else (lockageref03_value.j0 k a0 a1 (-1) false)) = some r := h; clear h; have HC3 := aM H; clear H
 go_enter Tryz.func85, Tryz.ntmps85
 go_upto_block 0 with (fail)
 go_cut [5] (fun v5 wc => ∃ (kq : Nat) (x5_2 : Int), v5 = .int .i64 x5_2 ∧ Aside0 (lockageref03_value.j2 kq a1 x5_2 = some r) ∧ Aside0 (kq ≤ k) ∧ Drawn0 w wc)
 case first =>
  have H := HC3.out; clear HC3; have HC4 := aM H; clear H
  go_upto_region 2 with (fail)
  go_cut [6] (fun v6 wc => ∃ (kq : Nat) (x6_3 : Bool), v6 = .bool x6_3 ∧ Aside0 (lockageref03_value.j0 kq a0 a1 (-1) x6_3 = some r) ∧ Aside0 (kq ≤ k) ∧ Drawn0 w wc)
  case first =>
   have H := HC4.out; clear HC4; by_cases c5 : a0 ≥ 48
   ·rw [if_pos c5] at H; have c5b0 : decide (48 ≤ a0) = true := decide_eq_true c5; clear c5
    (first | rw [c5b0] | (simp only [i64_w, i32_w]; rw [c5b0]) | skip)
    have H' := aM H; clear H
    go_wp2
    go_meet
    case rel => exact ⟨_, (decide (a0 ≤ 57)), (by first | rfl | (simp; done) | (simp [*]; done)), H', ⟨by first | omega | exact Nat.le_refl _⟩, by repeat (first | exact Drawn0.refl _ | apply Drawn0.step)⟩
   ·rw [if_neg c5] at H; have c5b0 : decide (48 ≤ a0) = false := decide_eq_false c5; clear c5
    (first | rw [c5b0] | (simp only [i64_w, i32_w]; rw [c5b0]) | skip)
    have H' := aM H; clear H
    go_wp2
    go_meet
    case rel => exact ⟨_, (false), (by first | rfl | (simp; done) | (simp [*]; done)), H', ⟨by first | omega | exact Nat.le_refl _⟩, by repeat (first | exact Drawn0.refl _ | apply Drawn0.step)⟩
  case rest =>
   clear HC4; (try clear p2); (try clear c5); (try clear c5b0); obtain ⟨kq, x6_3, rfl, HA, HJ3, ⟨mc3, rfl⟩⟩ := hcut; cases kq with
   | zero => exact absurd HA.out (by simp [lockageref03_value.j0])
   | succ kj3 =>
    have H := HA.out; clear HA; simp only [lockageref03_value.j0] at H; by_cases c6 : x6_3 = true
    ·subst c6; (have H1 : (lockageref03_value.j2 kj3 a1 ((a0 - 48) % 256)) = some r := by rw [if_pos rfl] at H; exact H); clear H; have H := H1; clear H1; have H' := aM H; clear H
     go_wp2
     go_meet
     case rel => exact ⟨_, ((a0 - 48) % 256), (by first | rfl | (simp; done) | (simp [*]; done)), H', ⟨by have := HJ3.out; first | omega | exact Nat.le_refl _⟩, by repeat (first | exact Drawn0.refl _ | apply Drawn0.step)⟩
    ·replace c6 := Bool.eq_false_iff.mpr c6; subst c6; (have H1 : (if a0 ≥ 97 then (lockageref03_value.j1 kj3 a0 a1 (-1) (decide (a0 ≤ 102))) else (lockageref03_value.j1 kj3 a0 a1 (-1) false)) = some r := by rw [if_neg (show ¬ (false = true) by decide)] at H; exact H); clear H; have H := H1; clear H1; have HC7 := aM H; clear H
     go_upto_region 4 with (fail)
     go_cut [16] (fun v16 wc => ∃ (kq : Nat) (x16_6 : Bool), v16 = .bool x16_6 ∧ Aside0 (lockageref03_value.j1 kq a0 a1 (-1) x16_6 = some r) ∧ Aside0 (kq ≤ kj3) ∧ Drawn0 w wc)
     case first =>
      have H := HC7.out; clear HC7; by_cases c8 : a0 ≥ 97
      ·rw [if_pos c8] at H; have c8b0 : decide (97 ≤ a0) = true := decide_eq_true c8; clear c8
       (first | rw [c8b0] | (simp only [i64_w, i32_w]; rw [c8b0]) | skip)
       have H' := aM H; clear H
       go_wp2
       go_meet
       case rel => exact ⟨_, (decide (a0 ≤ 102)), (by first | rfl | (simp; done) | (simp [*]; done)), H', ⟨by have := HJ3.out; first | omega | exact Nat.le_refl _⟩, by repeat (first | exact Drawn0.refl _ | apply Drawn0.step)⟩
      ·rw [if_neg c8] at H; have c8b0 : decide (97 ≤ a0) = false := decide_eq_false c8; clear c8
       (first | rw [c8b0] | (simp only [i64_w, i32_w]; rw [c8b0]) | skip)
       have H' := aM H; clear H
       go_wp2
       go_meet
       case rel => exact ⟨_, (false), (by first | rfl | (simp; done) | (simp [*]; done)), H', ⟨by have := HJ3.out; first | omega | exact Nat.le_refl _⟩, by repeat (first | exact Drawn0.refl _ | apply Drawn0.step)⟩
     case rest =>
      clear HC7; (try clear p2); (try clear c3); (try clear c5); (try clear c5b0); (try clear c6); (try clear c8); (try clear c8b0); (try clear p2); obtain ⟨kq, x16_6, rfl, HA, HJ6, ⟨mc6, rfl⟩⟩ := hcut; cases kq with
      | zero => exact absurd HA.out (by simp [lockageref03_value.j1])
      | succ kj6 =>
       have H := HA.out; clear HA; simp only [lockageref03_value.j1] at H; by_cases c9 : x16_6 = true
       ·subst c9; (have H1 : (lockageref03_value.j2 kj6 a1 (((a0 - 97) % 256) + 10)) = some r := by rw [if_pos rfl] at H; exact H); clear H; have H := H1; clear H1; have H' := aM H; clear H
        go_wp2
        go_meet
        case rel => exact ⟨_, (((a0 - 97) % 256) + 10), (by first | rfl | (simp; done) | (simp [*]; done)), H', ⟨by have := HJ3.out; have := HJ6.out; first | omega | exact Nat.le_refl _⟩, by repeat (first | exact Drawn0.refl _ | apply Drawn0.step)⟩
       ·replace c9 := Bool.eq_false_iff.mpr c9; subst c9; (have H1 : (if a0 ≥ 65 then (if a0 ≤ 70 then (lockageref03_value.j2 kj6 a1 (((a0 - 65) % 256) + 10)) else (lockageref03_value.j2 kj6 a1 (-1))) else (lockageref03_value.j2 kj6 a1 (-1))) = some r := by rw [if_neg (show ¬ (false = true) by decide)] at H; exact H); clear H; have H := H1; clear H1; by_cases c10 : a0 ≥ 65
        ·rw [if_pos c10] at H; have c10b0 : decide (65 ≤ a0) = true := decide_eq_true c10; clear c10; by_cases c11 : a0 ≤ 70
         ·rw [if_pos c11] at H; have c11b0 : decide (a0 ≤ 70) = true := decide_eq_true c11; clear c11; have H' := aM H; clear H
          go_wp2
          go_meet
          case rel => exact ⟨_, (((a0 - 65) % 256) + 10), (by first | rfl | (simp; done) | (simp [*]; done)), H', ⟨by have := HJ3.out; have := HJ6.out; first | omega | exact Nat.le_refl _⟩, by repeat (first | exact Drawn0.refl _ | apply Drawn0.step)⟩
         ·rw [if_neg c11] at H; have c11b0 : decide (a0 ≤ 70) = false := decide_eq_false c11; clear c11; have H' := aM H; clear H
          go_wp2
          go_meet
          case rel => exact ⟨_, ((-1)), (by first | rfl | (simp; done) | (simp [*]; done)), H', ⟨by have := HJ3.out; have := HJ6.out; first | omega | exact Nat.le_refl _⟩, by repeat (first | exact Drawn0.refl _ | apply Drawn0.step)⟩
        ·rw [if_neg c10] at H; have c10b0 : decide (65 ≤ a0) = false := decide_eq_false c10; clear c10; have H' := aM H; clear H
         go_wp2
         go_meet
         case rel => exact ⟨_, ((-1)), (by first | rfl | (simp; done) | (simp [*]; done)), H', ⟨by have := HJ3.out; have := HJ6.out; first | omega | exact Nat.le_refl _⟩, by repeat (first | exact Drawn0.refl _ | apply Drawn0.step)⟩
 case rest =>
  clear HC3; (try clear c1); (try clear p2); (try clear c3); (try clear c5); (try clear c5b0); (try clear c6); (try clear c8); (try clear c8b0); (try clear c9); (try clear c10); (try clear c10b0); (try clear c11); (try clear c11b0); (try clear p2); obtain ⟨kq, x5_2, rfl, HA, HJ2, ⟨mc2, rfl⟩⟩ := hcut; cases kq with
  | zero => exact absurd HA.out (by simp [lockageref03_value.j2])
  | succ kj2 =>
   have H := HA.out; clear HA; simp only [lockageref03_value.j2] at H; by_cases c12 : x5_2 ≥ a1
   ·rw [if_pos c12] at H; have c12b0 : decide (a1 ≤ x5_2) = true := decide_eq_true c12; clear c12; obtain rfl := Option.some.inj H
    go_wp2
    go_ret
    exact ⟨by first | rfl | (simp; done) | (simp [*]; done), by repeat (first | exact Drawn0.refl _ | apply Drawn0.step)⟩
   ·rw [if_neg c12] at H; have c12b0 : decide (a1 ≤ x5_2) = false := decide_eq_false c12; clear c12; obtain rfl := Option.some.inj H
    go_wp2
    go_ret
    exact ⟨by first | rfl | (simp; done) | (simp [*]; done), by repeat (first | exact Drawn0.refl _ | apply Drawn0.step)⟩

def lockageref03_Fits.f (a0 : Int) : Option (Bool) := if a0 ≥ 0 then (some (decide (a0 ≤ 9007199254740992))) else (some false)
set_option maxHeartbeats 8000000 in
set_option maxRecDepth 100000 in
theorem lockageref03_Fits.calls (a0 : Int) (r : Bool) (w : World) (h : lockageref03_Fits.f a0 = some r) :
  Calls Tryz.prog 48 #[.int .i64 a0] w fun e w' => e = .returned (.bool r) ∧ Drawn0 w w' := by
 have H : (if a0 ≥ 0 then (some (decide (a0 ≤ 9007199254740992))) else (some false)) = some r := h; clear h; by_cases c2 : a0 ≥ 0
 ·rw [if_pos c2] at H; have c2b0 : decide (0 ≤ a0) = true := decide_eq_true c2; clear c2; obtain rfl := Option.some.inj H
  go_enter Tryz.func48, Tryz.ntmps48
  go_wp2
  go_ret
  exact ⟨by first | rfl | (simp; done) | (simp [*]; done), by repeat (first | exact Drawn0.refl _ | apply Drawn0.step)⟩
 ·rw [if_neg c2] at H; have c2b0 : decide (0 ≤ a0) = false := decide_eq_false c2; clear c2; obtain rfl := Option.some.inj H
  go_enter Tryz.func48, Tryz.ntmps48
  go_wp2
  go_ret
  exact ⟨by first | rfl | (simp; done) | (simp [*]; done), by repeat (first | exact Drawn0.refl _ | apply Drawn0.step)⟩

def lockageref03_Mul.j0 : Nat → Int → Int → Bool → Option (Int × Int)
 | 0, _, _, _ => none
 | k + 1, x0, x1, x13 => if x13 = true then (some (0, 1)) else (if x1 > 0 then (if x1 = 0 then (none) else (if x0 > (wrap64 (Int.tdiv 9007199254740992 x1)) then (some (0, 3)) else (some (wrap64 (x0 * x1), 0)))) else (some (wrap64 (x0 * x1), 0)))
def lockageref03_Mul.f (k : Nat) (a0 : Int) (a1 : Int) : Option (Int × Int) := (lockageref03_Fits.f a0).bind fun t270 => (if t270 = true then ((lockageref03_Fits.f a1).bind fun t271 => (lockageref03_Mul.j0 k a0 a1 (!t271))) else (lockageref03_Mul.j0 k a0 a1 true))
theorem lockageref03_Mul.mono_l : ∀ k, (∀ y0 y1 y2, LeO (lockageref03_Mul.j0 k y0 y1 y2) (lockageref03_Mul.j0 (k + 1) y0 y1 y2))
 | 0 => fun _ _ _ r h => by simp [lockageref03_Mul.j0] at h
 | k + 1 => by
  have ih0 := lockageref03_Mul.mono_l k
  ·intro y0 y1 y2
   unfold lockageref03_Mul.j0
   repeat' first
   | (with_reducible exact ih0 _ _ _)
   | (with_reducible exact LeO.refl _)
   | (with_reducible exact LeO.none _)
   | (with_reducible refine LeO.ite ?_ ?_)
   | (with_reducible refine LeO.bind ?_ (fun _ => ?_))
   | exact ih0 _ _ _
   | exact LeO.none _
   | refine LeO.ite ?_ ?_
   | refine LeO.bind ?_ (fun _ => ?_)
theorem lockageref03_Mul.mono : ∀ a0 a1 k, LeO (lockageref03_Mul.f k a0 a1) (lockageref03_Mul.f (k + 1) a0 a1) := by
 intro a0 a1 k
 have ih0 := lockageref03_Mul.mono_l k
 unfold lockageref03_Mul.f
 repeat' first
   | (with_reducible exact ih0 _ _ _)
   | (with_reducible exact LeO.refl _)
   | (with_reducible exact LeO.none _)
   | (with_reducible refine LeO.ite ?_ ?_)
   | (with_reducible refine LeO.bind ?_ (fun _ => ?_))
   | exact ih0 _ _ _
   | exact LeO.none _
   | refine LeO.ite ?_ ?_
   | refine LeO.bind ?_ (fun _ => ?_)
set_option maxHeartbeats 8000000 in
set_option maxRecDepth 100000 in
theorem lockageref03_Mul.calls (k : Nat) (a0 : Int) (a1 : Int) (r1 : Int) (r2 : Int) (w : World) (h : lockageref03_Mul.f k a0 a1 = some (r1, r2)) :
  Calls Tryz.prog 86 #[.int .i64 a0, .int .i64 a1] w fun e w' => e = .returned (.tuple #[.int .i64 r1, .int .i64 r2]) ∧ Drawn0 w w' := by
 have H : ((lockageref03_Fits.f a0).bind fun t270 => (if t270 = true then ((lockageref03_Fits.f a1).bind fun t271 => (lockageref03_Mul.j0 k a0 a1 (!t271))) else (lockageref03_Mul.j0 k a0 a1 true))) = some (r1, r2) := h; clear h; have HC3 := aM H; clear H
 go_enter Tryz.func86, Tryz.ntmps86
 go_upto_region 1 with (fail)
 go_cut [13] (fun v13 wc => ∃ (kq : Nat) (x13_2 : Bool), v13 = .bool x13_2 ∧ Aside0 (lockageref03_Mul.j0 kq a0 a1 x13_2 = some (r1, r2)) ∧ Aside0 (kq ≤ k) ∧ Drawn0 w wc)
 case first =>
  have H := HC3.out; clear HC3; replace H := Option.bind_eq_some_iff.mp H; obtain ⟨t270, A40, H⟩ := H; replace H : (if t270 = true then ((lockageref03_Fits.f a1).bind fun t271 => (lockageref03_Mul.j0 k a0 a1 (!t271))) else (lockageref03_Mul.j0 k a0 a1 true)) = some (r1, r2) := H; have A4 := aM A40; clear A40; by_cases c5 : t270 = true
  ·subst c5; (have H1 : ((lockageref03_Fits.f a1).bind fun t271 => (lockageref03_Mul.j0 k a0 a1 (!t271))) = some (r1, r2) := by rw [if_pos rfl] at H; exact H); clear H; have H := H1; clear H1; replace H := Option.bind_eq_some_iff.mp H; obtain ⟨t271, A60, H⟩ := H; replace H : (lockageref03_Mul.j0 k a0 a1 (!t271)) = some (r1, r2) := H; have A6 := aM A60; clear A60; have H' := aM H; clear H
   go_wp2_with (first | ((with_reducible refine gate_callee (f := 48) rfl ?_); refine goesL_ (some 7) rfl rfl Tryz.func48 (by kernel_rfl) rfl #[.int .i64 a0] rfl (by (try simp only [List.map_toArray, List.map_cons, List.map_nil]); first | done | rfl | (simp only [List.length_drop, List.length_take]; rfl)) ?_; (with_reducible refine (lockageref03_Fits.calls a0 true _ A4.out).mono ?_); rintro e w' ⟨rfl, ⟨nd, rfl⟩⟩; refine ⟨_, rfl, ?_⟩) | (go_at_call 48; (with_reducible refine (lockageref03_Fits.calls a1 t271 _ A6.out).mono ?_); rintro e w' ⟨rfl, ⟨nd, rfl⟩⟩))
   go_meet
   case rel => exact ⟨_, (!t271), (by first | rfl | (simp; done) | (simp [*]; done)), H', ⟨by first | omega | exact Nat.le_refl _⟩, by repeat (first | exact Drawn0.refl _ | apply Drawn0.step)⟩
  ·replace c5 := Bool.eq_false_iff.mpr c5; subst c5; (have H1 : (lockageref03_Mul.j0 k a0 a1 true) = some (r1, r2) := by rw [if_neg (show ¬ (false = true) by decide)] at H; exact H); clear H; have H := H1; clear H1; have H' := aM H; clear H
   go_wp2_with (first | ((with_reducible refine gate_callee (f := 48) rfl ?_); refine goesL_ (some 7) rfl rfl Tryz.func48 (by kernel_rfl) rfl #[.int .i64 a0] rfl (by (try simp only [List.map_toArray, List.map_cons, List.map_nil]); first | done | rfl | (simp only [List.length_drop, List.length_take]; rfl)) ?_; (with_reducible refine (lockageref03_Fits.calls a0 false _ A4.out).mono ?_); rintro e w' ⟨rfl, ⟨nd, rfl⟩⟩; refine ⟨_, rfl, ?_⟩))
   go_meet
   case rel => exact ⟨_, (true), (by first | rfl | (simp; done) | (simp [*]; done)), H', ⟨by first | omega | exact Nat.le_refl _⟩, by repeat (first | exact Drawn0.refl _ | apply Drawn0.step)⟩
 case rest =>
  clear HC3; (try clear p2); (try clear c4); (try clear c5); obtain ⟨kq, x13_2, rfl, HA, HJ2, ⟨mc2, rfl⟩⟩ := hcut; cases kq with
  | zero => exact absurd HA.out (by simp [lockageref03_Mul.j0])
  | succ kj2 =>
   have H := HA.out; clear HA; simp only [lockageref03_Mul.j0] at H; by_cases c7 : x13_2 = true
   ·subst c7; (have H1 : (some (0, 1)) = some (r1, r2) := by rw [if_pos rfl] at H; exact H); clear H; have H := H1; clear H1; simp only [Option.some.injEq, Prod.mk.injEq] at H; obtain ⟨rfl, rfl⟩ := H
    go_wp2
    go_ret2
    exact ⟨by first | rfl | (simp; done) | (simp [*]; done), by repeat (first | exact Drawn0.refl _ | apply Drawn0.step)⟩
   ·replace c7 := Bool.eq_false_iff.mpr c7; subst c7; (have H1 : (if a1 > 0 then (if a1 = 0 then (none) else (if a0 > (wrap64 (Int.tdiv 9007199254740992 a1)) then (some (0, 3)) else (some (wrap64 (a0 * a1), 0)))) else (some (wrap64 (a0 * a1), 0))) = some (r1, r2) := by rw [if_neg (show ¬ (false = true) by decide)] at H; exact H); clear H; have H := H1; clear H1; by_cases c8 : a1 > 0
    ·rw [if_pos c8] at H; have c8b0 : decide (0 < a1) = true := decide_eq_true c8; clear c8; by_cases c9 : a1 = 0
     ·rw [if_pos c9] at H; exact absurd H (by simp)
     ·rw [if_neg c9] at H; have c9b0 : (a1 == 0) = false := beq_eq_false_iff_ne.mpr c9; have c9b1 : (a1 != 0) = true := bne_iff_ne.mpr c9; by_cases c10 : a0 > (wrap64 (Int.tdiv 9007199254740992 a1))
      ·rw [if_pos c10] at H; have c10b0 : decide ((wrap64 (Int.tdiv 9007199254740992 a1)) < a0) = true := decide_eq_true c10; clear c10; simp only [Option.some.injEq, Prod.mk.injEq] at H; obtain ⟨rfl, rfl⟩ := H
       go_wp2
       go_ret2
       exact ⟨by first | rfl | (simp; done) | (simp [*]; done), by repeat (first | exact Drawn0.refl _ | apply Drawn0.step)⟩
      ·rw [if_neg c10] at H; have c10b0 : decide ((wrap64 (Int.tdiv 9007199254740992 a1)) < a0) = false := decide_eq_false c10; clear c10; simp only [Option.some.injEq, Prod.mk.injEq] at H; obtain ⟨rfl, rfl⟩ := H
       go_wp2
       go_ret2
       exact ⟨by first | rfl | (simp; done) | (simp [*]; done), by repeat (first | exact Drawn0.refl _ | apply Drawn0.step)⟩
    ·rw [if_neg c8] at H; have c8b0 : decide (0 < a1) = false := decide_eq_false c8; clear c8; simp only [Option.some.injEq, Prod.mk.injEq] at H; obtain ⟨rfl, rfl⟩ := H
     go_wp2
     go_ret2
     exact ⟨by first | rfl | (simp; done) | (simp [*]; done), by repeat (first | exact Drawn0.refl _ | apply Drawn0.step)⟩

def lockageref03_Add.j0 : Nat → Int → Int → Bool → Option (Int × Int)
 | 0, _, _, _ => none
 | k + 1, x0, x1, x13 => if x13 = true then (some (0, 1)) else (if x0 > (wrap64 (9007199254740992 - x1)) then (some (0, 3)) else (some (wrap64 (x0 + x1), 0)))
def lockageref03_Add.f (k : Nat) (a0 : Int) (a1 : Int) : Option (Int × Int) := (lockageref03_Fits.f a0).bind fun t272 => (if t272 = true then ((lockageref03_Fits.f a1).bind fun t273 => (lockageref03_Add.j0 k a0 a1 (!t273))) else (lockageref03_Add.j0 k a0 a1 true))
theorem lockageref03_Add.mono_l : ∀ k, (∀ y0 y1 y2, LeO (lockageref03_Add.j0 k y0 y1 y2) (lockageref03_Add.j0 (k + 1) y0 y1 y2))
 | 0 => fun _ _ _ r h => by simp [lockageref03_Add.j0] at h
 | k + 1 => by
  have ih0 := lockageref03_Add.mono_l k
  ·intro y0 y1 y2
   unfold lockageref03_Add.j0
   repeat' first
   | (with_reducible exact ih0 _ _ _)
   | (with_reducible exact LeO.refl _)
   | (with_reducible exact LeO.none _)
   | (with_reducible refine LeO.ite ?_ ?_)
   | (with_reducible refine LeO.bind ?_ (fun _ => ?_))
   | exact ih0 _ _ _
   | exact LeO.none _
   | refine LeO.ite ?_ ?_
   | refine LeO.bind ?_ (fun _ => ?_)
theorem lockageref03_Add.mono : ∀ a0 a1 k, LeO (lockageref03_Add.f k a0 a1) (lockageref03_Add.f (k + 1) a0 a1) := by
 intro a0 a1 k
 have ih0 := lockageref03_Add.mono_l k
 unfold lockageref03_Add.f
 repeat' first
   | (with_reducible exact ih0 _ _ _)
   | (with_reducible exact LeO.refl _)
   | (with_reducible exact LeO.none _)
   | (with_reducible refine LeO.ite ?_ ?_)
   | (with_reducible refine LeO.bind ?_ (fun _ => ?_))
   | exact ih0 _ _ _
   | exact LeO.none _
   | refine LeO.ite ?_ ?_
   | refine LeO.bind ?_ (fun _ => ?_)
set_option maxHeartbeats 8000000 in
set_option maxRecDepth 100000 in
theorem lockageref03_Add.calls (k : Nat) (a0 : Int) (a1 : Int) (r1 : Int) (r2 : Int) (w : World) (h : lockageref03_Add.f k a0 a1 = some (r1, r2)) :
  Calls Tryz.prog 87 #[.int .i64 a0, .int .i64 a1] w fun e w' => e = .returned (.tuple #[.int .i64 r1, .int .i64 r2]) ∧ Drawn0 w w' := by
 have H : ((lockageref03_Fits.f a0).bind fun t272 => (if t272 = true then ((lockageref03_Fits.f a1).bind fun t273 => (lockageref03_Add.j0 k a0 a1 (!t273))) else (lockageref03_Add.j0 k a0 a1 true))) = some (r1, r2) := h; clear h; have HC3 := aM H; clear H
 go_enter Tryz.func87, Tryz.ntmps87
 go_upto_region 1 with (fail)
 go_cut [13] (fun v13 wc => ∃ (kq : Nat) (x13_2 : Bool), v13 = .bool x13_2 ∧ Aside0 (lockageref03_Add.j0 kq a0 a1 x13_2 = some (r1, r2)) ∧ Aside0 (kq ≤ k) ∧ Drawn0 w wc)
 case first =>
  have H := HC3.out; clear HC3; replace H := Option.bind_eq_some_iff.mp H; obtain ⟨t272, A40, H⟩ := H; replace H : (if t272 = true then ((lockageref03_Fits.f a1).bind fun t273 => (lockageref03_Add.j0 k a0 a1 (!t273))) else (lockageref03_Add.j0 k a0 a1 true)) = some (r1, r2) := H; have A4 := aM A40; clear A40; by_cases c5 : t272 = true
  ·subst c5; (have H1 : ((lockageref03_Fits.f a1).bind fun t273 => (lockageref03_Add.j0 k a0 a1 (!t273))) = some (r1, r2) := by rw [if_pos rfl] at H; exact H); clear H; have H := H1; clear H1; replace H := Option.bind_eq_some_iff.mp H; obtain ⟨t273, A60, H⟩ := H; replace H : (lockageref03_Add.j0 k a0 a1 (!t273)) = some (r1, r2) := H; have A6 := aM A60; clear A60; have H' := aM H; clear H
   go_wp2_with (first | ((with_reducible refine gate_callee (f := 48) rfl ?_); refine goesL_ (some 7) rfl rfl Tryz.func48 (by kernel_rfl) rfl #[.int .i64 a0] rfl (by (try simp only [List.map_toArray, List.map_cons, List.map_nil]); first | done | rfl | (simp only [List.length_drop, List.length_take]; rfl)) ?_; (with_reducible refine (lockageref03_Fits.calls a0 true _ A4.out).mono ?_); rintro e w' ⟨rfl, ⟨nd, rfl⟩⟩; refine ⟨_, rfl, ?_⟩) | (go_at_call 48; (with_reducible refine (lockageref03_Fits.calls a1 t273 _ A6.out).mono ?_); rintro e w' ⟨rfl, ⟨nd, rfl⟩⟩))
   go_meet
   case rel => exact ⟨_, (!t273), (by first | rfl | (simp; done) | (simp [*]; done)), H', ⟨by first | omega | exact Nat.le_refl _⟩, by repeat (first | exact Drawn0.refl _ | apply Drawn0.step)⟩
  ·replace c5 := Bool.eq_false_iff.mpr c5; subst c5; (have H1 : (lockageref03_Add.j0 k a0 a1 true) = some (r1, r2) := by rw [if_neg (show ¬ (false = true) by decide)] at H; exact H); clear H; have H := H1; clear H1; have H' := aM H; clear H
   go_wp2_with (first | ((with_reducible refine gate_callee (f := 48) rfl ?_); refine goesL_ (some 7) rfl rfl Tryz.func48 (by kernel_rfl) rfl #[.int .i64 a0] rfl (by (try simp only [List.map_toArray, List.map_cons, List.map_nil]); first | done | rfl | (simp only [List.length_drop, List.length_take]; rfl)) ?_; (with_reducible refine (lockageref03_Fits.calls a0 false _ A4.out).mono ?_); rintro e w' ⟨rfl, ⟨nd, rfl⟩⟩; refine ⟨_, rfl, ?_⟩))
   go_meet
   case rel => exact ⟨_, (true), (by first | rfl | (simp; done) | (simp [*]; done)), H', ⟨by first | omega | exact Nat.le_refl _⟩, by repeat (first | exact Drawn0.refl _ | apply Drawn0.step)⟩
 case rest =>
  clear HC3; (try clear p2); (try clear c4); (try clear c5); obtain ⟨kq, x13_2, rfl, HA, HJ2, ⟨mc2, rfl⟩⟩ := hcut; cases kq with
  | zero => exact absurd HA.out (by simp [lockageref03_Add.j0])
  | succ kj2 =>
   have H := HA.out; clear HA; simp only [lockageref03_Add.j0] at H; by_cases c7 : x13_2 = true
   ·subst c7; (have H1 : (some (0, 1)) = some (r1, r2) := by rw [if_pos rfl] at H; exact H); clear H; have H := H1; clear H1; simp only [Option.some.injEq, Prod.mk.injEq] at H; obtain ⟨rfl, rfl⟩ := H
    go_wp2
    go_ret2
    exact ⟨by first | rfl | (simp; done) | (simp [*]; done), by repeat (first | exact Drawn0.refl _ | apply Drawn0.step)⟩
   ·replace c7 := Bool.eq_false_iff.mpr c7; subst c7; (have H1 : (if a0 > (wrap64 (9007199254740992 - a1)) then (some (0, 3)) else (some (wrap64 (a0 + a1), 0))) = some (r1, r2) := by rw [if_neg (show ¬ (false = true) by decide)] at H; exact H); clear H; have H := H1; clear H1; by_cases c8 : a0 > (wrap64 (9007199254740992 - a1))
    ·rw [if_pos c8] at H; have c8b0 : decide ((wrap64 (9007199254740992 - a1)) < a0) = true := decide_eq_true c8; clear c8; simp only [Option.some.injEq, Prod.mk.injEq] at H; obtain ⟨rfl, rfl⟩ := H
     go_wp2
     go_ret2
     exact ⟨by first | rfl | (simp; done) | (simp [*]; done), by repeat (first | exact Drawn0.refl _ | apply Drawn0.step)⟩
    ·rw [if_neg c8] at H; have c8b0 : decide ((wrap64 (9007199254740992 - a1)) < a0) = false := decide_eq_false c8; clear c8; simp only [Option.some.injEq, Prod.mk.injEq] at H; obtain ⟨rfl, rfl⟩ := H
     go_wp2
     go_ret2
     exact ⟨by first | rfl | (simp; done) | (simp [*]; done), by repeat (first | exact Drawn0.refl _ | apply Drawn0.step)⟩

end Go.Proofs.YtemhokkfefidlaaGreatDoor.P
