/- Printed by a program of the session out of the translation: plain Lean functions, each with the contract that the Go function computes it. -/
import Derived.Test.YtemhokkfefidlaaGreatDoorHZ
import Derived.Test.YtemhokkfefidlaaGreatDoorPx0
import Derived.Test.YtemhokkfefidlaaGreatDoorPx8
namespace Go.Proofs.YtemhokkfefidlaaGreatDoor.P
open Go.RowKit Go.Proofs.YtemhokkfefidlaaGreatDoorW.PrintWords Go.Proofs.YtemhokkfefidlaaGreatDoorW.PrintLast Go.Proofs.YtemhokkfefidlaaGreatDoorW.PrintMore
attribute [local go_sem] max2_int min2_int max_two min_two max_three min_three max_four min_four   -- for this text's walks alone
set_option linter.unusedVariables false
set_option linter.unusedSimpArgs false

def lockageref06_version.j0 : Nat → ByteArray → Bool → Option (Int × Int)
 | 0, _, _ => none
 | k + 1, x0, x28 => if x28 = true then (some (0, 20)) else (if 5 < (x0.size : Int) then (if (bt x0 5) = 49 then (if 7 < (x0.size : Int) then (if (bt x0 7) > 49 then (some (0, 24)) else (some (((bt x0 7) - 48) % 256, 0))) else (none)) else (some (0, 24))) else (none))
def lockageref06_version.f (k : Nat) (a0 : ByteArray) : Option (Int × Int) := if (a0.size : Int) = 8 then (if 0 ≤ 5 then (if 5 ≤ (a0.size : Int) then (if (a0.extract 0 5).toList = ([72, 84, 84, 80, 47] : List UInt8) then (if 5 < (a0.size : Int) then ((lockageref06_digit.f (bt a0 5)).bind fun t257 => (if t257 = true then (if 6 < (a0.size : Int) then (if (bt a0 6) = 46 then (if 7 < (a0.size : Int) then ((lockageref06_digit.f (bt a0 7)).bind fun t258 => (lockageref06_version.j0 k a0 (!t258))) else (none)) else (lockageref06_version.j0 k a0 true)) else (none)) else (lockageref06_version.j0 k a0 true))) else (none)) else (lockageref06_version.j0 k a0 true)) else (none)) else (none)) else (lockageref06_version.j0 k a0 true)
theorem lockageref06_version.mono_l : ∀ k, (∀ y0 y1, LeO (lockageref06_version.j0 k y0 y1) (lockageref06_version.j0 (k + 1) y0 y1))
 | 0 => fun _ _ r h => by simp [lockageref06_version.j0] at h
 | k + 1 => by
  have ih0 := lockageref06_version.mono_l k
  ·intro y0 y1
   unfold lockageref06_version.j0
   repeat' first
   | (with_reducible exact ih0 _ _)
   | (with_reducible exact LeO.refl _)
   | (with_reducible exact LeO.none _)
   | (with_reducible refine LeO.ite ?_ ?_)
   | (with_reducible refine LeO.bind ?_ (fun _ => ?_))
   | exact ih0 _ _
   | exact LeO.none _
   | refine LeO.ite ?_ ?_
   | refine LeO.bind ?_ (fun _ => ?_)
theorem lockageref06_version.mono : ∀ a0 k, LeO (lockageref06_version.f k a0) (lockageref06_version.f (k + 1) a0) := by
 intro a0 k
 have ih0 := lockageref06_version.mono_l k
 unfold lockageref06_version.f
 repeat' first
   | (with_reducible exact ih0 _ _)
   | (with_reducible exact LeO.refl _)
   | (with_reducible exact LeO.none _)
   | (with_reducible refine LeO.ite ?_ ?_)
   | (with_reducible refine LeO.bind ?_ (fun _ => ?_))
   | exact ih0 _ _
   | exact LeO.none _
   | refine LeO.ite ?_ ?_
   | refine LeO.bind ?_ (fun _ => ?_)
set_option maxHeartbeats 8000000 in
set_option maxRecDepth 100000 in
theorem lockageref06_version.calls (k : Nat) (a0 : ByteArray) (r1 : Int) (r2 : Int) (w : World) (h : lockageref06_version.f k a0 = some (r1, r2)) :
  Calls Tryz.prog 68 #[.string a0] w fun e w' => e = .returned (.tuple #[.int .i64 r1, .int .i64 r2]) ∧ Drawn0 w w' := by
 have H := h; unfold lockageref06_version.f at H; clear h; have HC2 := aM H; clear H
 go_enter Tryz.func68, Tryz.ntmps68
 go_upto_region 1 with (fail)
 go_cut [28] (fun v28 wc => ∃ (kq : Nat) (x28_1 : Bool), v28 = .bool x28_1 ∧ Aside0 (lockageref06_version.j0 kq a0 x28_1 = some (r1, r2)) ∧ Aside0 (kq ≤ k) ∧ Drawn0 w wc)
 case first =>
  have H := HC2.out; clear HC2; by_cases c3 : (a0.size : Int) = 8
  ·rw [if_pos c3] at H; have c3b0 : ((a0.size : Int) == 8) = true := beq_iff_eq.mpr c3; have c3b1 : ((a0.size : Int) != 8) = false := bne_eq_false_iff_eq.mpr c3; clear c3
   (first | rw [c3b0] | (simp only [i64_w, i32_w]; rw [c3b0]) | skip)
   by_cases c4 : 0 ≤ 5
   ·rw [if_pos c4] at H; have c4b0 := eq_true c4; have c4b1 : decide (0 ≤ 5) = true := decide_eq_true c4; clear c4; by_cases c5 : 5 ≤ (a0.size : Int)
    ·rw [if_pos c5] at H; have c5b0 := eq_true c5; have c5b1 : decide (5 ≤ (a0.size : Int)) = true := decide_eq_true c5; clear c5; by_cases c6 : (a0.extract 0 5).toList = ([72, 84, 84, 80, 47] : List UInt8)
     ·rw [if_pos c6] at H; have c6b0 : ((a0.extract 0 5).toList == ([72, 84, 84, 80, 47] : List UInt8)) = true := beq_iff_eq.mpr c6; have c6b1 : ((a0.extract 0 5).toList != ([72, 84, 84, 80, 47] : List UInt8)) = false := bne_eq_false_iff_eq.mpr c6; clear c6; by_cases c7 : 5 < (a0.size : Int)
      ·rw [if_pos c7] at H; have c7b0 : decide (5 < (a0.size : Int)) = true := decide_eq_true c7; have c7b1 : decide (5 < a0.size) = true := decide_eq_true (by omega); clear c7; replace H := Option.bind_eq_some_iff.mp H; obtain ⟨t257, A90, H⟩ := H; (try dsimp only at H); have A9 := aM A90; clear A90; by_cases c10 : t257 = true
       ·subst c10; (have H1 : (if 6 < (a0.size : Int) then (if (bt a0 6) = 46 then (if 7 < (a0.size : Int) then ((lockageref06_digit.f (bt a0 7)).bind fun t258 => (lockageref06_version.j0 k a0 (!t258))) else (none)) else (lockageref06_version.j0 k a0 true)) else (none)) = some (r1, r2) := by rw [if_pos rfl] at H; exact H); clear H; have H := H1; clear H1; by_cases c11 : 6 < (a0.size : Int)
        ·rw [if_pos c11] at H; have c11b0 : decide (6 < (a0.size : Int)) = true := decide_eq_true c11; have c11b1 : decide (6 < a0.size) = true := decide_eq_true (by omega); clear c11; by_cases c13 : (bt a0 6) = 46
         ·rw [if_pos c13] at H; have c13b0 : ((bt a0 6) == 46) = true := beq_iff_eq.mpr c13; have c13b1 : ((bt a0 6) != 46) = false := bne_eq_false_iff_eq.mpr c13; clear c13; by_cases c14 : 7 < (a0.size : Int)
          ·rw [if_pos c14] at H; have c14b0 : decide (7 < (a0.size : Int)) = true := decide_eq_true c14; have c14b1 : decide (7 < a0.size) = true := decide_eq_true (by omega); clear c14; replace H := Option.bind_eq_some_iff.mp H; obtain ⟨t258, A160, H⟩ := H; replace H : (lockageref06_version.j0 k a0 (!t258)) = some (r1, r2) := H; have A16 := aM A160; clear A160; have H' := aM H; clear H; have p8 : 0 ≤ (5 : Int) := (by omega); have q8 : 5 < a0.size := (by have : (5 : Int) < (a0.size : Int) := of_decide_eq_true (by first | (with_reducible assumption) | assumption); omega); have hx8 : ∀ h : 5 < a0.size, ((a0[5]'h).toNat : Int) = bt a0 5 := bt_at a0 5; clear p8; have qi8 : (5 < (a0.size : Int)) = True := eq_true (of_decide_eq_true (by first | (with_reducible assumption) | assumption)); replace q8 := eq_true q8
           go_wp2_with (first | (go_at_call 69; (with_reducible refine (lockageref06_digit.calls (bt a0 5) true _ A9.out).mono ?_); rintro e w' ⟨rfl, ⟨nd, rfl⟩⟩; have p12 : 0 ≤ (6 : Int) := (by omega); have q12 : 6 < a0.size := (by have : (6 : Int) < (a0.size : Int) := of_decide_eq_true (by first | (with_reducible assumption) | assumption); omega); have hx12 : ∀ h : 6 < a0.size, ((a0[6]'h).toNat : Int) = bt a0 6 := bt_at a0 6; clear p12; have qi12 : (6 < (a0.size : Int)) = True := eq_true (of_decide_eq_true (by first | (with_reducible assumption) | assumption)); replace q12 := eq_true q12; have p15 : 0 ≤ (7 : Int) := (by omega); have q15 : 7 < a0.size := (by have : (7 : Int) < (a0.size : Int) := of_decide_eq_true (by first | (with_reducible assumption) | assumption); omega); have hx15 : ∀ h : 7 < a0.size, ((a0[7]'h).toNat : Int) = bt a0 7 := bt_at a0 7; clear p15; have qi15 : (7 < (a0.size : Int)) = True := eq_true (of_decide_eq_true (by first | (with_reducible assumption) | assumption)); replace q15 := eq_true q15) | (go_at_call 69; (with_reducible refine (lockageref06_digit.calls (bt a0 7) t258 _ A16.out).mono ?_); rintro e w' ⟨rfl, ⟨nd, rfl⟩⟩))
           go_meet
           case rel => exact ⟨_, (!t258), (by first | rfl | (simp; done) | (simp [*]; done)), H', ⟨by first | omega | exact Nat.le_refl _⟩, by repeat (first | exact Drawn0.refl _ | apply Drawn0.step)⟩
          ·rw [if_neg c14] at H; exact absurd H (by simp)
         ·rw [if_neg c13] at H; have c13b0 : ((bt a0 6) == 46) = false := beq_eq_false_iff_ne.mpr c13; have c13b1 : ((bt a0 6) != 46) = true := bne_iff_ne.mpr c13; have H' := aM H; clear H; have p8 : 0 ≤ (5 : Int) := (by omega); have q8 : 5 < a0.size := (by have : (5 : Int) < (a0.size : Int) := of_decide_eq_true (by first | (with_reducible assumption) | assumption); omega); have hx8 : ∀ h : 5 < a0.size, ((a0[5]'h).toNat : Int) = bt a0 5 := bt_at a0 5; clear p8; have qi8 : (5 < (a0.size : Int)) = True := eq_true (of_decide_eq_true (by first | (with_reducible assumption) | assumption)); replace q8 := eq_true q8
          go_wp2_with (first | (go_at_call 69; (with_reducible refine (lockageref06_digit.calls (bt a0 5) true _ A9.out).mono ?_); rintro e w' ⟨rfl, ⟨nd, rfl⟩⟩; have p12 : 0 ≤ (6 : Int) := (by omega); have q12 : 6 < a0.size := (by have : (6 : Int) < (a0.size : Int) := of_decide_eq_true (by first | (with_reducible assumption) | assumption); omega); have hx12 : ∀ h : 6 < a0.size, ((a0[6]'h).toNat : Int) = bt a0 6 := bt_at a0 6; clear p12; have qi12 : (6 < (a0.size : Int)) = True := eq_true (of_decide_eq_true (by first | (with_reducible assumption) | assumption)); replace q12 := eq_true q12))
          go_meet
          case rel => exact ⟨_, (true), (by first | rfl | (simp; done) | (simp [*]; done)), H', ⟨by first | omega | exact Nat.le_refl _⟩, by repeat (first | exact Drawn0.refl _ | apply Drawn0.step)⟩
        ·rw [if_neg c11] at H; exact absurd H (by simp)
       ·replace c10 := Bool.eq_false_iff.mpr c10; subst c10; (have H1 : (lockageref06_version.j0 k a0 true) = some (r1, r2) := by rw [if_neg (show ¬ (false = true) by decide)] at H; exact H); clear H; have H := H1; clear H1; have H' := aM H; clear H; have p8 : 0 ≤ (5 : Int) := (by omega); have q8 : 5 < a0.size := (by have : (5 : Int) < (a0.size : Int) := of_decide_eq_true (by first | (with_reducible assumption) | assumption); omega); have hx8 : ∀ h : 5 < a0.size, ((a0[5]'h).toNat : Int) = bt a0 5 := bt_at a0 5; clear p8; have qi8 : (5 < (a0.size : Int)) = True := eq_true (of_decide_eq_true (by first | (with_reducible assumption) | assumption)); replace q8 := eq_true q8
        go_wp2_with (first | (go_at_call 69; (with_reducible refine (lockageref06_digit.calls (bt a0 5) false _ A9.out).mono ?_); rintro e w' ⟨rfl, ⟨nd, rfl⟩⟩))
        go_meet
        case rel => exact ⟨_, (true), (by first | rfl | (simp; done) | (simp [*]; done)), H', ⟨by first | omega | exact Nat.le_refl _⟩, by repeat (first | exact Drawn0.refl _ | apply Drawn0.step)⟩
      ·rw [if_neg c7] at H; exact absurd H (by simp)
     ·rw [if_neg c6] at H; have c6b0 : ((a0.extract 0 5).toList == ([72, 84, 84, 80, 47] : List UInt8)) = false := beq_eq_false_iff_ne.mpr c6; have c6b1 : ((a0.extract 0 5).toList != ([72, 84, 84, 80, 47] : List UInt8)) = true := bne_iff_ne.mpr c6; have H' := aM H; clear H
      go_wp2
      go_meet
      case rel => exact ⟨_, (true), (by first | rfl | (simp; done) | (simp [*]; done)), H', ⟨by first | omega | exact Nat.le_refl _⟩, by repeat (first | exact Drawn0.refl _ | apply Drawn0.step)⟩
    ·rw [if_neg c5] at H; exact absurd H (by simp)
   ·rw [if_neg c4] at H; exact absurd H (by simp)
  ·rw [if_neg c3] at H; have c3b0 : ((a0.size : Int) == 8) = false := beq_eq_false_iff_ne.mpr c3; have c3b1 : ((a0.size : Int) != 8) = true := bne_iff_ne.mpr c3
   (first | rw [c3b0] | (simp only [i64_w, i32_w]; rw [c3b0]) | skip)
   have H' := aM H; clear H
   go_wp2
   go_meet
   case rel => exact ⟨_, (true), (by first | rfl | (simp; done) | (simp [*]; done)), H', ⟨by first | omega | exact Nat.le_refl _⟩, by repeat (first | exact Drawn0.refl _ | apply Drawn0.step)⟩
 case rest =>
  clear HC2; (try clear c1); (try clear p1); (try clear q1); (try clear hx1); (try clear qi1); (try clear p2); (try clear c3); (try clear c3b0); (try clear c3b1); (try clear c4); (try clear c4b0); (try clear c4b1); (try clear c5); (try clear c5b0); (try clear c5b1); (try clear c6); (try clear c6b0); (try clear c6b1); (try clear c7); (try clear c7b0); (try clear c7b1); (try clear p8); (try clear q8); (try clear hx8); (try clear qi8); (try clear c10); (try clear c11); (try clear c11b0); (try clear c11b1); (try clear p12); (try clear q12); (try clear hx12); (try clear qi12); (try clear c13); (try clear c13b0); (try clear c13b1); (try clear c14); (try clear c14b0); (try clear c14b1); (try clear p15); (try clear q15); (try clear hx15); (try clear qi15); (try clear p12); (try clear p15); (try clear p8); (try clear q12); (try clear q15); (try clear q8); obtain ⟨kq, x28_1, rfl, HA, HJ1, ⟨mc1, rfl⟩⟩ := hcut; cases kq with
  | zero => exact absurd HA.out (by simp [lockageref06_version.j0])
  | succ kj1 =>
   have H := HA.out; clear HA; simp only [lockageref06_version.j0] at H; by_cases c17 : x28_1 = true
   ·subst c17; (have H1 : (some (0, 20)) = some (r1, r2) := by rw [if_pos rfl] at H; exact H); clear H; have H := H1; clear H1; simp only [Option.some.injEq, Prod.mk.injEq] at H; obtain ⟨rfl, rfl⟩ := H
    go_wp2
    go_ret2
    exact ⟨by first | rfl | (simp; done) | (simp [*]; done), by repeat (first | exact Drawn0.refl _ | apply Drawn0.step)⟩
   ·replace c17 := Bool.eq_false_iff.mpr c17; subst c17; (have H1 : (if 5 < (a0.size : Int) then (if (bt a0 5) = 49 then (if 7 < (a0.size : Int) then (if (bt a0 7) > 49 then (some (0, 24)) else (some (((bt a0 7) - 48) % 256, 0))) else (none)) else (some (0, 24))) else (none)) = some (r1, r2) := by rw [if_neg (show ¬ (false = true) by decide)] at H; exact H); clear H; have H := H1; clear H1; by_cases c18 : 5 < (a0.size : Int)
    ·rw [if_pos c18] at H; have c18b0 : decide (5 < (a0.size : Int)) = true := decide_eq_true c18; have c18b1 : decide (5 < a0.size) = true := decide_eq_true (by omega); clear c18; by_cases c20 : (bt a0 5) = 49
     ·rw [if_pos c20] at H; have c20b0 : ((bt a0 5) == 49) = true := beq_iff_eq.mpr c20; have c20b1 : ((bt a0 5) != 49) = false := bne_eq_false_iff_eq.mpr c20; clear c20; by_cases c21 : 7 < (a0.size : Int)
      ·rw [if_pos c21] at H; have c21b0 : decide (7 < (a0.size : Int)) = true := decide_eq_true c21; have c21b1 : decide (7 < a0.size) = true := decide_eq_true (by omega); clear c21; by_cases c23 : (bt a0 7) > 49
       ·rw [if_pos c23] at H; have c23b0 : decide (49 < (bt a0 7)) = true := decide_eq_true c23; clear c23; simp only [Option.some.injEq, Prod.mk.injEq] at H; obtain ⟨rfl, rfl⟩ := H; have p19 : 0 ≤ (5 : Int) := (by omega); have q19 : 5 < a0.size := (by have : (5 : Int) < (a0.size : Int) := of_decide_eq_true (by first | (with_reducible assumption) | assumption); omega); have hx19 : ∀ h : 5 < a0.size, ((a0[5]'h).toNat : Int) = bt a0 5 := bt_at a0 5; clear p19; have qi19 : (5 < (a0.size : Int)) = True := eq_true (of_decide_eq_true (by first | (with_reducible assumption) | assumption)); replace q19 := eq_true q19; have p22 : 0 ≤ (7 : Int) := (by omega); have q22 : 7 < a0.size := (by have : (7 : Int) < (a0.size : Int) := of_decide_eq_true (by first | (with_reducible assumption) | assumption); omega); have hx22 : ∀ h : 7 < a0.size, ((a0[7]'h).toNat : Int) = bt a0 7 := bt_at a0 7; clear p22; have qi22 : (7 < (a0.size : Int)) = True := eq_true (of_decide_eq_true (by first | (with_reducible assumption) | assumption)); replace q22 := eq_true q22
        go_wp2
        go_ret2
        exact ⟨by first | rfl | (simp; done) | (simp [*]; done), by repeat (first | exact Drawn0.refl _ | apply Drawn0.step)⟩
       ·rw [if_neg c23] at H; have c23b0 : decide (49 < (bt a0 7)) = false := decide_eq_false c23; clear c23; simp only [Option.some.injEq, Prod.mk.injEq] at H; obtain ⟨rfl, rfl⟩ := H; have p19 : 0 ≤ (5 : Int) := (by omega); have q19 : 5 < a0.size := (by have : (5 : Int) < (a0.size : Int) := of_decide_eq_true (by first | (with_reducible assumption) | assumption); omega); have hx19 : ∀ h : 5 < a0.size, ((a0[5]'h).toNat : Int) = bt a0 5 := bt_at a0 5; clear p19; have qi19 : (5 < (a0.size : Int)) = True := eq_true (of_decide_eq_true (by first | (with_reducible assumption) | assumption)); replace q19 := eq_true q19; have p22 : 0 ≤ (7 : Int) := (by omega); have q22 : 7 < a0.size := (by have : (7 : Int) < (a0.size : Int) := of_decide_eq_true (by first | (with_reducible assumption) | assumption); omega); have hx22 : ∀ h : 7 < a0.size, ((a0[7]'h).toNat : Int) = bt a0 7 := bt_at a0 7; clear p22; have qi22 : (7 < (a0.size : Int)) = True := eq_true (of_decide_eq_true (by first | (with_reducible assumption) | assumption)); replace q22 := eq_true q22; have p24 : 0 ≤ (7 : Int) := (by omega); have q24 : 7 < a0.size := (by have : (7 : Int) < (a0.size : Int) := of_decide_eq_true (by first | (with_reducible assumption) | assumption); omega); have hx24 : ∀ h : 7 < a0.size, ((a0[7]'h).toNat : Int) = bt a0 7 := bt_at a0 7; clear p24; have qi24 : (7 < (a0.size : Int)) = True := eq_true (of_decide_eq_true (by first | (with_reducible assumption) | assumption)); replace q24 := eq_true q24
        go_wp2
        go_ret2
        exact ⟨by first | rfl | (simp; done) | (simp [*]; done), by repeat (first | exact Drawn0.refl _ | apply Drawn0.step)⟩
      ·rw [if_neg c21] at H; exact absurd H (by simp)
     ·rw [if_neg c20] at H; have c20b0 : ((bt a0 5) == 49) = false := beq_eq_false_iff_ne.mpr c20; have c20b1 : ((bt a0 5) != 49) = true := bne_iff_ne.mpr c20; simp only [Option.some.injEq, Prod.mk.injEq] at H; obtain ⟨rfl, rfl⟩ := H; have p19 : 0 ≤ (5 : Int) := (by omega); have q19 : 5 < a0.size := (by have : (5 : Int) < (a0.size : Int) := of_decide_eq_true (by first | (with_reducible assumption) | assumption); omega); have hx19 : ∀ h : 5 < a0.size, ((a0[5]'h).toNat : Int) = bt a0 5 := bt_at a0 5; clear p19; have qi19 : (5 < (a0.size : Int)) = True := eq_true (of_decide_eq_true (by first | (with_reducible assumption) | assumption)); replace q19 := eq_true q19
      go_wp2
      go_ret2
      exact ⟨by first | rfl | (simp; done) | (simp [*]; done), by repeat (first | exact Drawn0.refl _ | apply Drawn0.step)⟩
    ·rw [if_neg c18] at H; exact absurd H (by simp)

def lockageref06_request.j0 : Nat → ByteArray → ByteArray → ByteArray → Bool → Option (ByteArray × ByteArray × Int × ByteArray × Int × (List (S37)) × Int)
 | 0, _, _, _, _ => none
 | k + 1, x4, x7, x8, x39 => if x39 = true then (some ((⟨#[]⟩ : ByteArray), (⟨#[]⟩ : ByteArray), 0, (⟨#[]⟩ : ByteArray), 0, ([] : List (S37)), 20)) else ((lockageref06_version.f k x8).bind fun bt268 => (some (x4, x7, 0, (⟨#[]⟩ : ByteArray), bt268.1, ([] : List (S37)), bt268.2)))
def lockageref06_request.f (k : Nat) (a0 : ByteArray) : Option (ByteArray × ByteArray × Int × ByteArray × Int × (List (S37)) × Int) := (lockageref06_cut.f k a0).bind fun bt260 => ((lockageref06_cut.f k bt260.2.1).bind fun bt263 => (if bt260.2.2 = true then (if bt263.2.2 = true then ((lockageref05_Name.f k bt260.1).bind fun t266 => (if t266 = true then ((lockageref06_target.f k bt263.1).bind fun t267 => (lockageref06_request.j0 k bt260.1 bt263.1 bt263.2.1 (!t267))) else (lockageref06_request.j0 k bt260.1 bt263.1 bt263.2.1 true))) else (lockageref06_request.j0 k bt260.1 bt263.1 bt263.2.1 true)) else (lockageref06_request.j0 k bt260.1 bt263.1 bt263.2.1 true)))
theorem lockageref06_request.mono_l : ∀ k, (∀ y0 y1 y2 y3, LeO (lockageref06_request.j0 k y0 y1 y2 y3) (lockageref06_request.j0 (k + 1) y0 y1 y2 y3))
 | 0 => fun _ _ _ _ r h => by simp [lockageref06_request.j0] at h
 | k + 1 => by
  have ih0 := lockageref06_request.mono_l k
  ·intro y0 y1 y2 y3
   unfold lockageref06_request.j0
   repeat' first
   | (with_reducible exact ih0 _ _ _ _)
   | (with_reducible exact lockageref05_Name.mono _ _)
   | (with_reducible exact lockageref06_cut.mono _ _)
   | (with_reducible exact lockageref06_target.mono _ _)
   | (with_reducible exact lockageref06_version.mono _ _)
   | (with_reducible exact LeO.refl _)
   | (with_reducible exact LeO.none _)
   | (with_reducible refine LeO.ite ?_ ?_)
   | (with_reducible refine LeO.bind ?_ (fun _ => ?_))
   | exact ih0 _ _ _ _
   | exact lockageref05_Name.mono _ _
   | exact lockageref06_cut.mono _ _
   | exact lockageref06_target.mono _ _
   | exact lockageref06_version.mono _ _
   | exact LeO.none _
   | refine LeO.ite ?_ ?_
   | refine LeO.bind ?_ (fun _ => ?_)
theorem lockageref06_request.mono : ∀ a0 k, LeO (lockageref06_request.f k a0) (lockageref06_request.f (k + 1) a0) := by
 intro a0 k
 have ih0 := lockageref06_request.mono_l k
 unfold lockageref06_request.f
 repeat' first
   | (with_reducible exact ih0 _ _ _ _)
   | (with_reducible exact lockageref05_Name.mono _ _)
   | (with_reducible exact lockageref06_cut.mono _ _)
   | (with_reducible exact lockageref06_target.mono _ _)
   | (with_reducible exact lockageref06_version.mono _ _)
   | (with_reducible exact LeO.refl _)
   | (with_reducible exact LeO.none _)
   | (with_reducible refine LeO.ite ?_ ?_)
   | (with_reducible refine LeO.bind ?_ (fun _ => ?_))
   | exact ih0 _ _ _ _
   | exact lockageref05_Name.mono _ _
   | exact lockageref06_cut.mono _ _
   | exact lockageref06_target.mono _ _
   | exact lockageref06_version.mono _ _
   | exact LeO.none _
   | refine LeO.ite ?_ ?_
   | refine LeO.bind ?_ (fun _ => ?_)
set_option maxHeartbeats 8000000 in
set_option maxRecDepth 100000 in
theorem lockageref06_request.calls (k : Nat) (a0 : ByteArray) (r1 : ByteArray) (r2 : ByteArray) (r3 : Int) (r4 : ByteArray) (r5 : Int) (r6 : List (S37)) (r7 : Int) (w : World) (h : lockageref06_request.f k a0 = some (r1, r2, r3, r4, r5, r6, r7)) :
  Calls Tryz.prog 39 #[.string a0] w fun e w' => ∃ v5_ : Value, e = .returned (.tuple #[.agg #[.string r1, .string r2, .int .i64 r3, .string r4, .int .i64 r5, v5_], .int .i64 r7]) ∧ Kd.R k37 37 w' w.heap.size (fun _ => True) v5_ r6 ∧ Below w.heap.size w w' := by
 have hu30 := Tryz.underlying30; have HB := aM (Below.refl w.heap.size w); have H := h; unfold lockageref06_request.f at H; clear h; replace H := Option.bind_eq_some_iff.mp H; obtain ⟨⟨t260, t261, t262⟩, A20, H⟩ := H; (try dsimp only at H); have A2 := aM A20; clear A20; replace H := Option.bind_eq_some_iff.mp H; obtain ⟨⟨t263, t264, t265⟩, A30, H⟩ := H; (try dsimp only at H); have A3 := aM A30; clear A30; have HC4 := aM H; clear H
 go_enter Tryz.func39, Tryz.ntmps39
 go_upto_region 3 with (first | ((with_reducible refine gate_dst (N := 2) rfl ?_); refine box_event ?hg (N := 2) ?hd (cs := #[.string (⟨#[]⟩ : ByteArray), .string (⟨#[]⟩ : ByteArray), .int .i64 0, .string (⟨#[]⟩ : ByteArray), .int .i64 0, .slice none 0 0]) (t := 30) ?hr ?_; (case hd => rfl); (case hg => rfl); (case hr => first | (go_simp; done) | (go_simp; rfl)); intro gb259 hg w5 hbox hb; have n0_ := aM (below_step (by repeat (first | (with_reducible first | exact HB.out | apply lA | apply lN | apply lD) | exact HB.out)) hb); have n1_ := aM (hbox); have n2_ := aM ((by rw [hg]; exact (below_size (by repeat (first | (with_reducible first | exact HB.out | apply lA | apply lN | apply lD) | exact HB.out))) : w.heap.size ≤ gb259)); have n3_ := n2_; clear HB; have HB := n0_; have BK259 := n1_; have GW259 := n2_; have GE259 := n3_; clear n0_ n1_ n2_ n3_; clear hb hbox hg) | ((with_reducible refine gate_callee (f := 67) rfl ?_); refine goesL_ (some 14) rfl rfl Tryz.func67 (by kernel_rfl) rfl #[.string a0] rfl (by (try simp only [List.map_toArray, List.map_cons, List.map_nil]); first | done | rfl | (simp only [List.length_drop, List.length_take]; rfl)) ?_; (with_reducible refine (lockageref06_cut.calls k a0 t260 t261 t262 _ A2.out).mono ?_); rintro e w' ⟨rfl, ⟨nd, rfl⟩⟩; refine ⟨_, rfl, ?_⟩) | ((with_reducible refine gate_callee (f := 67) rfl ?_); refine goesL_ (some 20) rfl rfl Tryz.func67 (by kernel_rfl) rfl #[.string t261] rfl (by (try simp only [List.map_toArray, List.map_cons, List.map_nil]); first | done | rfl | (simp only [List.length_drop, List.length_take]; rfl)) ?_; (with_reducible refine (lockageref06_cut.calls k t261 t263 t264 t265 _ A3.out).mono ?_); rintro e w' ⟨rfl, ⟨nd, rfl⟩⟩; refine ⟨_, rfl, ?_⟩))
 (try simp only [Act.put, List.setIfInBounds_toArray, List.set_cons_zero, List.set_cons_succ])
 go_cut [39] (fun v39 wc => ∃ (kq : Nat) (x39_3 : Bool), v39 = .bool x39_3 ∧ Aside0 (lockageref06_request.j0 kq t260 t263 t264 x39_3 = some (r1, r2, r3, r4, r5, r6, r7)) ∧ Aside0 (kq ≤ k) ∧ Aside0 (wc.heap[gb259]? = some (.cells #[.string (⟨#[]⟩ : ByteArray), .string (⟨#[]⟩ : ByteArray), .int .i64 0, .string (⟨#[]⟩ : ByteArray), .int .i64 0, (.slice none 0 0)] 30 (0, 0))) ∧ Aside0 (Below w.heap.size w wc))
 case first =>
  have H := HC4.out; clear HC4; by_cases c6 : t262 = true
  ·subst c6; (have H1 : (if t265 = true then ((lockageref05_Name.f k t260).bind fun t266 => (if t266 = true then ((lockageref06_target.f k t263).bind fun t267 => (lockageref06_request.j0 k t260 t263 t264 (!t267))) else (lockageref06_request.j0 k t260 t263 t264 true))) else (lockageref06_request.j0 k t260 t263 t264 true)) = some (r1, r2, r3, r4, r5, r6, r7) := by rw [if_pos rfl] at H; exact H); clear H; have H := H1; clear H1; by_cases c7 : t265 = true
   ·subst c7; (have H1 : ((lockageref05_Name.f k t260).bind fun t266 => (if t266 = true then ((lockageref06_target.f k t263).bind fun t267 => (lockageref06_request.j0 k t260 t263 t264 (!t267))) else (lockageref06_request.j0 k t260 t263 t264 true))) = some (r1, r2, r3, r4, r5, r6, r7) := by rw [if_pos rfl] at H; exact H); clear H; have H := H1; clear H1; replace H := Option.bind_eq_some_iff.mp H; obtain ⟨t266, A80, H⟩ := H; (try dsimp only at H); have A8 := aM A80; clear A80; by_cases c9 : t266 = true
    ·subst c9; (have H1 : ((lockageref06_target.f k t263).bind fun t267 => (lockageref06_request.j0 k t260 t263 t264 (!t267))) = some (r1, r2, r3, r4, r5, r6, r7) := by rw [if_pos rfl] at H; exact H); clear H; have H := H1; clear H1; replace H := Option.bind_eq_some_iff.mp H; obtain ⟨t267, A100, H⟩ := H; replace H : (lockageref06_request.j0 k t260 t263 t264 (!t267)) = some (r1, r2, r3, r4, r5, r6, r7) := H; have A10 := aM A100; clear A100; have H' := aM H; clear H
     go_wp2_with (first | (go_at_call 45; (with_reducible refine (lockageref05_Name.calls k t260 true _ A8.out).mono ?_); rintro e w' ⟨rfl, ⟨nd, rfl⟩⟩) | (go_at_call 46; (with_reducible refine (lockageref06_target.calls k t263 t267 _ A10.out).mono ?_); rintro e w' ⟨rfl, ⟨nd, rfl⟩⟩))
     go_meet
     case rel => exact ⟨_, (!t267), (by first | rfl | (simp; done) | (simp [*]; done)), H', ⟨by first | omega | exact Nat.le_refl _⟩, ⟨by (with_reducible repeat (first | refine bN ?_ _ | refine bD ?_ | refine bA ?_ _)); exact BK259.out⟩, ⟨by repeat (first | (with_reducible first | exact HB.out | apply lA | apply lN | apply lD | refine below_set ?_ GE259.out) | exact HB.out)⟩⟩
    ·replace c9 := Bool.eq_false_iff.mpr c9; subst c9; (have H1 : (lockageref06_request.j0 k t260 t263 t264 true) = some (r1, r2, r3, r4, r5, r6, r7) := by rw [if_neg (show ¬ (false = true) by decide)] at H; exact H); clear H; have H := H1; clear H1; have H' := aM H; clear H
     go_wp2_with (first | (go_at_call 45; (with_reducible refine (lockageref05_Name.calls k t260 false _ A8.out).mono ?_); rintro e w' ⟨rfl, ⟨nd, rfl⟩⟩))
     go_meet
     case rel => exact ⟨_, (true), (by first | rfl | (simp; done) | (simp [*]; done)), H', ⟨by first | omega | exact Nat.le_refl _⟩, ⟨by (with_reducible repeat (first | refine bN ?_ _ | refine bD ?_ | refine bA ?_ _)); exact BK259.out⟩, ⟨by repeat (first | (with_reducible first | exact HB.out | apply lA | apply lN | apply lD | refine below_set ?_ GE259.out) | exact HB.out)⟩⟩
   ·replace c7 := Bool.eq_false_iff.mpr c7; subst c7; (have H1 : (lockageref06_request.j0 k t260 t263 t264 true) = some (r1, r2, r3, r4, r5, r6, r7) := by rw [if_neg (show ¬ (false = true) by decide)] at H; exact H); clear H; have H := H1; clear H1; have H' := aM H; clear H
    go_wp2
    go_meet
    case rel => exact ⟨_, (true), (by first | rfl | (simp; done) | (simp [*]; done)), H', ⟨by first | omega | exact Nat.le_refl _⟩, ⟨by (with_reducible repeat (first | refine bN ?_ _ | refine bD ?_ | refine bA ?_ _)); exact BK259.out⟩, ⟨by repeat (first | (with_reducible first | exact HB.out | apply lA | apply lN | apply lD | refine below_set ?_ GE259.out) | exact HB.out)⟩⟩
  ·replace c6 := Bool.eq_false_iff.mpr c6; subst c6; (have H1 : (lockageref06_request.j0 k t260 t263 t264 true) = some (r1, r2, r3, r4, r5, r6, r7) := by rw [if_neg (show ¬ (false = true) by decide)] at H; exact H); clear H; have H := H1; clear H1; have H' := aM H; clear H
   go_wp2
   go_meet
   case rel => exact ⟨_, (true), (by first | rfl | (simp; done) | (simp [*]; done)), H', ⟨by first | omega | exact Nat.le_refl _⟩, ⟨by (with_reducible repeat (first | refine bN ?_ _ | refine bD ?_ | refine bA ?_ _)); exact BK259.out⟩, ⟨by repeat (first | (with_reducible first | exact HB.out | apply lA | apply lN | apply lD | refine below_set ?_ GE259.out) | exact HB.out)⟩⟩
 case rest =>
  clear HC4; (try clear p2); (try clear c3); (try clear c6); (try clear c7); (try clear c9); obtain ⟨kq, x39_3, rfl, HA, HJ3, BK259, HB⟩ := hcut; cases kq with
  | zero => exact absurd HA.out (by simp [lockageref06_request.j0])
  | succ kj3 =>
   have H := HA.out; clear HA; simp only [lockageref06_request.j0] at H; by_cases c11 : x39_3 = true
   ·subst c11; (have H1 : (some ((⟨#[]⟩ : ByteArray), (⟨#[]⟩ : ByteArray), 0, (⟨#[]⟩ : ByteArray), 0, ([] : List (S37)), 20)) = some (r1, r2, r3, r4, r5, r6, r7) := by rw [if_pos rfl] at H; exact H); clear H; have H := H1; clear H1; simp only [Option.some.injEq, Prod.mk.injEq] at H; obtain ⟨rfl, rfl, rfl, rfl, rfl, rfl, rfl⟩ := H; obtain ⟨hcz12_0, hcz12_1, hcz12_2, hcz12_3, hcz12_4, hcz12_5, hfz12_0, hfz12_1, hfz12_2, hfz12_3, hfz12_4, hfz12_5⟩ := cz6 BK259.out
    go_wp2
    refine bodyPost_ret (results_ct rfl _ _ gb259 30 #[.string (⟨#[]⟩ : ByteArray), .string (⟨#[]⟩ : ByteArray), .int .i64 0, .string (⟨#[]⟩ : ByteArray), .int .i64 0, .slice none 0 0] (0, 0) _ rfl (by (repeat (first | (with_reducible first | refine bN ?_ _ | refine bD ?_ | refine bA ?_ _ | apply p6_5 | apply p6_4 | apply p6_3 | apply p6_2 | apply p6_1 | apply p6_0))); exact BK259.out) Tryz.underlying30 rfl (by kernel_rfl)) rfl ?_
    exact ⟨_, by first | rfl | (simp [errW_none, errW_some] <;> rfl) | (simp [*, errW_none, errW_some] <;> rfl), by first | exact Kd.R_nil _ _ _ _ _ | exact Kd.N_nil _ _ _ _ _ | exact Kd.V_nil _ _ _ _ _ | exact Kd.Q_nil _ _ _ _ _ | exact Kd.S_nil _ _ _ _ _, by repeat (first | (with_reducible first | exact HB.out | apply lA | apply lN | apply lD | refine below_set ?_ GE259.out) | exact HB.out)⟩
   ·replace c11 := Bool.eq_false_iff.mpr c11; subst c11; (have H1 : ((lockageref06_version.f kj3 t264).bind fun bt268 => (some (t260, t263, 0, (⟨#[]⟩ : ByteArray), bt268.1, ([] : List (S37)), bt268.2))) = some (r1, r2, r3, r4, r5, r6, r7) := by rw [if_neg (show ¬ (false = true) by decide)] at H; exact H); clear H; have H := H1; clear H1; replace H := Option.bind_eq_some_iff.mp H; obtain ⟨⟨t268, t269⟩, A130, H⟩ := H; replace H : (some (t260, t263, 0, (⟨#[]⟩ : ByteArray), t268, ([] : List (S37)), t269)) = some (r1, r2, r3, r4, r5, r6, r7) := H; have A13 := aM A130; clear A130; simp only [Option.some.injEq, Prod.mk.injEq] at H; obtain ⟨rfl, rfl, rfl, rfl, rfl, rfl, rfl⟩ := H
    go_wp2_with (first | ((with_reducible refine gate_callee (f := 68) rfl ?_); refine goesL_ (some 43) rfl rfl Tryz.func68 (by kernel_rfl) rfl #[.string t264] rfl (by (try simp only [List.map_toArray, List.map_cons, List.map_nil]); first | done | rfl | (simp only [List.length_drop, List.length_take]; rfl)) ?_; (with_reducible refine (lockageref06_version.calls kj3 t264 t268 t269 _ A13.out).mono ?_); rintro e w' ⟨rfl, ⟨nd, rfl⟩⟩; refine ⟨_, rfl, ?_⟩; (try (rw [drewN_self wc]; generalize hq_ : World.drewN wc _ = wc; have n0_ : Aside0 (wc.heap[gb259]? = some (.cells #[.string (⟨#[]⟩ : ByteArray), .string (⟨#[]⟩ : ByteArray), .int .i64 0, .string (⟨#[]⟩ : ByteArray), .int .i64 0, .slice none 0 0] 30 (0, 0))) := ⟨by rw [← hq_]; exact (by (with_reducible repeat (first | refine bN ?_ _ | refine bD ?_ | refine bA ?_ _)); exact BK259.out)⟩; have n1_ : Aside0 (Below w.heap.size w wc) := ⟨by rw [← hq_]; exact (by repeat (first | (with_reducible first | exact HB.out | apply lA | apply lN | apply lD | refine below_set ?_ GE259.out) | exact HB.out))⟩; clear BK259 HB hq_; have BK259 := n0_; have HB := n1_; clear n0_ n1_)); obtain ⟨hcz14_0, hcz14_1, hcz14_2, hcz14_3, hcz14_4, hcz14_5, hfz14_0, hfz14_1, hfz14_2, hfz14_3, hfz14_4, hfz14_5⟩ := cz6 BK259.out))
    refine bodyPost_ret (results_ct rfl _ _ gb259 30 #[.string t260, .string t263, .int .i64 0, .string (⟨#[]⟩ : ByteArray), .int .i64 t268, .slice none 0 0] (0, 0) _ rfl (by (repeat (first | (with_reducible first | refine bN ?_ _ | refine bD ?_ | refine bA ?_ _ | apply p6_5 | apply p6_4 | apply p6_3 | apply p6_2 | apply p6_1 | apply p6_0))); exact BK259.out) Tryz.underlying30 rfl (by kernel_rfl)) rfl ?_
    exact ⟨_, by first | rfl | (simp [errW_none, errW_some] <;> rfl) | (simp [*, errW_none, errW_some] <;> rfl), by first | exact Kd.R_nil _ _ _ _ _ | exact Kd.N_nil _ _ _ _ _ | exact Kd.V_nil _ _ _ _ _ | exact Kd.Q_nil _ _ _ _ _ | exact Kd.S_nil _ _ _ _ _, by repeat (first | (with_reducible first | exact HB.out | apply lA | apply lN | apply lD | refine below_set ?_ GE259.out) | exact HB.out)⟩

mutual
def lockageref06_reason.l0 : Nat → ByteArray → Int → Option (Bool)
 | 0, _, _ => none
 | k + 1, x0, x3 => if x3 < (x0.size : Int) then (if 0 ≤ x3 then (if (bt x0 x3) = 9 then (lockageref06_reason.j1 k x0 x3 false) else (if (bt x0 x3) < 32 then (lockageref06_reason.j1 k x0 x3 true) else (lockageref06_reason.j1 k x0 x3 (decide ((bt x0 x3) > 126))))) else (none)) else (some (decide ((x0.size : Int) ≤ 200)))
def lockageref06_reason.j1 : Nat → ByteArray → Int → Bool → Option (Bool)
 | 0, _, _, _ => none
 | k + 1, x0, x3, x25 => if x25 = true then (some false) else (lockageref06_reason.l0 k x0 (wrap64 (x3 + 1)))
end
def lockageref06_reason.f (k : Nat) (a0 : ByteArray) : Option (Bool) := lockageref06_reason.l0 k a0 0
theorem lockageref06_reason.mono_l : ∀ k, (∀ y0 y1, LeO (lockageref06_reason.l0 k y0 y1) (lockageref06_reason.l0 (k + 1) y0 y1)) ∧ (∀ y0 y1 y2, LeO (lockageref06_reason.j1 k y0 y1 y2) (lockageref06_reason.j1 (k + 1) y0 y1 y2))
 | 0 => ⟨fun _ _ r h => by simp [lockageref06_reason.l0] at h, fun _ _ _ r h => by simp [lockageref06_reason.j1] at h⟩
 | k + 1 => by
  obtain ⟨ih0, ih1⟩ := lockageref06_reason.mono_l k
  refine ⟨?_, ?_⟩
  ·intro y0 y1
   unfold lockageref06_reason.l0
   repeat' first
   | (with_reducible exact ih0 _ _)
   | (with_reducible exact ih1 _ _ _)
   | (with_reducible exact LeO.refl _)
   | (with_reducible exact LeO.none _)
   | (with_reducible refine LeO.ite ?_ ?_)
   | (with_reducible refine LeO.bind ?_ (fun _ => ?_))
   | exact ih0 _ _
   | exact ih1 _ _ _
   | exact LeO.none _
   | refine LeO.ite ?_ ?_
   | refine LeO.bind ?_ (fun _ => ?_)
  ·intro y0 y1 y2
   unfold lockageref06_reason.j1
   repeat' first
   | (with_reducible exact ih0 _ _)
   | (with_reducible exact ih1 _ _ _)
   | (with_reducible exact LeO.refl _)
   | (with_reducible exact LeO.none _)
   | (with_reducible refine LeO.ite ?_ ?_)
   | (with_reducible refine LeO.bind ?_ (fun _ => ?_))
   | exact ih0 _ _
   | exact ih1 _ _ _
   | exact LeO.none _
   | refine LeO.ite ?_ ?_
   | refine LeO.bind ?_ (fun _ => ?_)
theorem lockageref06_reason.mono : ∀ a0 k, LeO (lockageref06_reason.f k a0) (lockageref06_reason.f (k + 1) a0) := by
 intro a0 k
 obtain ⟨ih0, ih1⟩ := lockageref06_reason.mono_l k
 unfold lockageref06_reason.f
 repeat' first
   | (with_reducible exact ih0 _ _)
   | (with_reducible exact ih1 _ _ _)
   | (with_reducible exact LeO.refl _)
   | (with_reducible exact LeO.none _)
   | (with_reducible refine LeO.ite ?_ ?_)
   | (with_reducible refine LeO.bind ?_ (fun _ => ?_))
   | exact ih0 _ _
   | exact ih1 _ _ _
   | exact LeO.none _
   | refine LeO.ite ?_ ?_
   | refine LeO.bind ?_ (fun _ => ?_)
set_option maxHeartbeats 8000000 in
set_option maxRecDepth 100000 in
theorem lockageref06_reason.calls (k : Nat) (a0 : ByteArray) (r : Bool) (w : World) (h : lockageref06_reason.f k a0 = some r) :
  Calls Tryz.prog 44 #[.string a0] w fun e w' => e = .returned (.bool r) ∧ Drawn0 w w' := by
 have H : (lockageref06_reason.l0 k a0 0) = some r := h; clear h; have H' := aM H; clear H
 go_enter Tryz.func44, Tryz.ntmps44
 go_wp2
 go_loopg [3] k (fun kq v3 w' => ∃ (x3_1 : Int), v3 = .int .i64 x3_1 ∧ Aside0 (lockageref06_reason.l0 kq a0 x3_1 = some r) ∧ Aside0 (kq ≤ k) ∧ Drawn0 w w')
 case atStart => exact ⟨(0), (by first | rfl | (simp; done) | (simp [*]; done)), H', ⟨Nat.le_refl _⟩, by repeat (first | exact Drawn0.refl _ | apply Drawn0.step)⟩
 case round =>
  clear H'; obtain ⟨x3_1, rfl, HA, HK1, ⟨m1, rfl⟩⟩ := hrel; cases gk with
  | zero => exact absurd HA.out (by simp [lockageref06_reason.l0])
  | succ k1 =>
   have H := HA.out; clear HA; simp only [lockageref06_reason.l0] at H; by_cases c2 : x3_1 < (a0.size : Int)
   ·rw [if_pos c2] at H; have c2b0 : decide (x3_1 < (a0.size : Int)) = true := decide_eq_true c2; clear c2; have HC3 := aM H; clear H
    go_upto_region 4 with (fail)
    go_cut [25] (fun v25 wc => ∃ (kq : Nat) (x25_2 : Bool), v25 = .bool x25_2 ∧ Aside0 (lockageref06_reason.j1 kq a0 x3_1 x25_2 = some r) ∧ Aside0 (kq ≤ k1) ∧ Drawn0 w wc)
    case first =>
     have H := HC3.out; clear HC3; by_cases c4 : 0 ≤ x3_1
     ·rw [if_pos c4] at H; have c4b0 : decide (0 ≤ x3_1) = true := decide_eq_true c4; clear c4
      (first | rw [c4b0] | (simp only [i64_w, i32_w]; rw [c4b0]) | skip)
      by_cases c6 : (bt a0 x3_1) = 9
      ·rw [if_pos c6] at H; have c6b0 : ((bt a0 x3_1) == 9) = true := beq_iff_eq.mpr c6; have c6b1 : ((bt a0 x3_1) != 9) = false := bne_eq_false_iff_eq.mpr c6; clear c6; have H' := aM H; clear H; have p5 : 0 ≤ (x3_1 : Int) := of_decide_eq_true (by first | (with_reducible assumption) | assumption); have q5 : x3_1 < (a0.size : Int) := of_decide_eq_true (by first | (with_reducible assumption) | assumption); have hx5 := bt_at a0 x3_1; replace p5 := eq_true p5; replace q5 := eq_true q5
       go_wp2
       go_meet
       case rel => exact ⟨_, (false), (by first | rfl | (simp; done) | (simp [*]; done)), H', ⟨by have := HK1.out; first | omega | exact Nat.le_refl _⟩, by repeat (first | exact Drawn0.refl _ | apply Drawn0.step)⟩
      ·rw [if_neg c6] at H; have c6b0 : ((bt a0 x3_1) == 9) = false := beq_eq_false_iff_ne.mpr c6; have c6b1 : ((bt a0 x3_1) != 9) = true := bne_iff_ne.mpr c6; by_cases c8 : (bt a0 x3_1) < 32
       ·rw [if_pos c8] at H; have c8b0 : decide ((bt a0 x3_1) < 32) = true := decide_eq_true c8; clear c8; have H' := aM H; clear H; have p5 : 0 ≤ (x3_1 : Int) := of_decide_eq_true (by first | (with_reducible assumption) | assumption); have q5 : x3_1 < (a0.size : Int) := of_decide_eq_true (by first | (with_reducible assumption) | assumption); have hx5 := bt_at a0 x3_1; replace p5 := eq_true p5; replace q5 := eq_true q5; have p7 : 0 ≤ (x3_1 : Int) := of_decide_eq_true (by first | (with_reducible assumption) | assumption); have q7 : x3_1 < (a0.size : Int) := of_decide_eq_true (by first | (with_reducible assumption) | assumption); have hx7 := bt_at a0 x3_1; replace p7 := eq_true p7; replace q7 := eq_true q7
        go_wp2
        go_meet
        case rel => exact ⟨_, (true), (by first | rfl | (simp; done) | (simp [*]; done)), H', ⟨by have := HK1.out; first | omega | exact Nat.le_refl _⟩, by repeat (first | exact Drawn0.refl _ | apply Drawn0.step)⟩
       ·rw [if_neg c8] at H; have c8b0 : decide ((bt a0 x3_1) < 32) = false := decide_eq_false c8; clear c8; have H' := aM H; clear H; have p5 : 0 ≤ (x3_1 : Int) := of_decide_eq_true (by first | (with_reducible assumption) | assumption); have q5 : x3_1 < (a0.size : Int) := of_decide_eq_true (by first | (with_reducible assumption) | assumption); have hx5 := bt_at a0 x3_1; replace p5 := eq_true p5; replace q5 := eq_true q5; have p7 : 0 ≤ (x3_1 : Int) := of_decide_eq_true (by first | (with_reducible assumption) | assumption); have q7 : x3_1 < (a0.size : Int) := of_decide_eq_true (by first | (with_reducible assumption) | assumption); have hx7 := bt_at a0 x3_1; replace p7 := eq_true p7; replace q7 := eq_true q7; have p9 : 0 ≤ (x3_1 : Int) := of_decide_eq_true (by first | (with_reducible assumption) | assumption); have q9 : x3_1 < (a0.size : Int) := of_decide_eq_true (by first | (with_reducible assumption) | assumption); have hx9 := bt_at a0 x3_1; replace p9 := eq_true p9; replace q9 := eq_true q9
        go_wp2
        go_meet
        case rel => exact ⟨_, (decide ((bt a0 x3_1) > 126)), (by first | rfl | (simp; done) | (simp [*]; done)), H', ⟨by have := HK1.out; first | omega | exact Nat.le_refl _⟩, by repeat (first | exact Drawn0.refl _ | apply Drawn0.step)⟩
     ·rw [if_neg c4] at H; exact absurd H (by simp)
    case rest =>
     clear HC3; (try clear c2); (try clear c2b0); (try clear p2); (try clear c4); (try clear c4b0); (try clear p5); (try clear q5); (try clear hx5); (try clear c6); (try clear c6b0); (try clear c6b1); (try clear p7); (try clear q7); (try clear hx7); (try clear c8); (try clear c8b0); (try clear p9); (try clear q9); (try clear hx9); (try clear p5); (try clear p7); (try clear p9); (try clear q5); (try clear q7); (try clear q9); obtain ⟨kq, x25_2, rfl, HA, HJ2, ⟨mc2, rfl⟩⟩ := hcut; cases kq with
     | zero => exact absurd HA.out (by simp [lockageref06_reason.j1])
     | succ kj2 =>
      have H := HA.out; clear HA; simp only [lockageref06_reason.j1] at H; by_cases c10 : x25_2 = true
      ·subst c10; (have H1 : (some false) = some r := by rw [if_pos rfl] at H; exact H); clear H; have H := H1; clear H1; obtain rfl := Option.some.inj H
       go_wp2
       go_ret
       exact ⟨by first | rfl | (simp; done) | (simp [*]; done), by repeat (first | exact Drawn0.refl _ | apply Drawn0.step)⟩
      ·replace c10 := Bool.eq_false_iff.mpr c10; subst c10; (have H1 : (lockageref06_reason.l0 kj2 a0 (wrap64 (x3_1 + 1))) = some r := by rw [if_neg (show ¬ (false = true) by decide)] at H; exact H); clear H; have H := H1; clear H1; have H' := aM H; clear H
       go_wp2
       go_roundg kj2
       case measure => have := HK1.out; have := HJ2.out; omega
       case rel => exact ⟨(wrap64 (x3_1 + 1)), (by first | rfl | (simp; done) | (simp [*]; done)), H', ⟨by have := HK1.out; have := HJ2.out; omega⟩, by repeat (first | exact Drawn0.refl _ | apply Drawn0.step)⟩
   ·rw [if_neg c2] at H; have c2b0 : decide (x3_1 < (a0.size : Int)) = false := decide_eq_false c2; clear c2; obtain rfl := Option.some.inj H
    go_wp2
    go_ret
    exact ⟨by first | rfl | (simp; done) | (simp [*]; done), by repeat (first | exact Drawn0.refl _ | apply Drawn0.step)⟩

end Go.Proofs.YtemhokkfefidlaaGreatDoor.P
