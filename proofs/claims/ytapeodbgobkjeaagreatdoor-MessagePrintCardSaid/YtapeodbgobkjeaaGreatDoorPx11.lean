/- Printed by a program of the session out of the translation: plain Lean functions, each with the contract that the Go function computes it. -/
import Derived.Test.YtapeodbgobkjeaaGreatDoorHZM
import Derived.Test.YtapeodbgobkjeaaGreatDoorPx0
import Derived.Test.YtapeodbgobkjeaaGreatDoorPxA
namespace Go.Proofs.YtapeodbgobkjeaaGreatDoor.P
open Go.RowKit Go.Proofs.YtapeodbgobkjeaaGreatDoorW.PrintWords Go.Proofs.YtapeodbgobkjeaaGreatDoorW.PrintLast Go.Proofs.YtapeodbgobkjeaaGreatDoorW.PrintMore
attribute [local go_sem] max2_int min2_int max_two min_two max_three min_three max_four min_four   -- for this text's walks alone
set_option linter.unusedVariables false
set_option linter.unusedSimpArgs false

attribute [local go_sem high] eqA40
mutual
def lockageref05_tchar.j0 : Nat → Int → Bool → Option (Bool)
 | 0, _, _ => none
 | k + 1, x0, x25 => if x25 = true then (some true) else (lockageref05_tchar.l0 k x0 0)
def lockageref05_tchar.l0 : Nat → Int → Int → Option (Bool)
 | 0, _, _ => none
 | k + 1, x0, x3 => if x3 < 15 then (if 0 ≤ x3 then (if (bt (⟨#[33, 35, 36, 37, 38, 39, 42, 43, 45, 46, 94, 95, 96, 124, 126]⟩ : ByteArray) x3) = x0 then (some true) else (lockageref05_tchar.l0 k x0 (wrap64 (x3 + 1)))) else (none)) else (some false)
end
def lockageref05_tchar.f (k : Nat) (a0 : Int) : Option (Bool) := if a0 ≥ 48 then (if a0 ≤ 57 then (lockageref05_tchar.j0 k a0 true) else (if a0 ≥ 97 then (if a0 ≤ 122 then (lockageref05_tchar.j0 k a0 true) else (if a0 ≥ 65 then (lockageref05_tchar.j0 k a0 (decide (a0 ≤ 90))) else (lockageref05_tchar.j0 k a0 false))) else (if a0 ≥ 65 then (lockageref05_tchar.j0 k a0 (decide (a0 ≤ 90))) else (lockageref05_tchar.j0 k a0 false)))) else (if a0 ≥ 97 then (if a0 ≤ 122 then (lockageref05_tchar.j0 k a0 true) else (if a0 ≥ 65 then (lockageref05_tchar.j0 k a0 (decide (a0 ≤ 90))) else (lockageref05_tchar.j0 k a0 false))) else (if a0 ≥ 65 then (lockageref05_tchar.j0 k a0 (decide (a0 ≤ 90))) else (lockageref05_tchar.j0 k a0 false)))
theorem lockageref05_tchar.mono_l : ∀ k, (∀ y0 y1, LeO (lockageref05_tchar.j0 k y0 y1) (lockageref05_tchar.j0 (k + 1) y0 y1)) ∧ (∀ y0 y1, LeO (lockageref05_tchar.l0 k y0 y1) (lockageref05_tchar.l0 (k + 1) y0 y1))
 | 0 => ⟨fun _ _ r h => by simp [lockageref05_tchar.j0] at h, fun _ _ r h => by simp [lockageref05_tchar.l0] at h⟩
 | k + 1 => by
  obtain ⟨ih0, ih1⟩ := lockageref05_tchar.mono_l k
  refine ⟨?_, ?_⟩
  ·intro y0 y1
   unfold lockageref05_tchar.j0; exact zM
  ·intro y0 y1
   unfold lockageref05_tchar.l0; exact zM
theorem lockageref05_tchar.mono : ∀ a0 k, LeO (lockageref05_tchar.f k a0) (lockageref05_tchar.f (k + 1) a0) := by
 intro a0 k
 obtain ⟨ih0, ih1⟩ := lockageref05_tchar.mono_l k
 unfold lockageref05_tchar.f; exact zM
set_option maxHeartbeats 8000000 in
set_option maxRecDepth 100000 in
theorem lockageref05_tchar.calls (k : Nat) (a0 : Int) (r : Bool) (w : World) (h : lockageref05_tchar.f k a0 = some r) :
  Calls Tryz.prog 97 #[.int .u8 a0] w fun e w' => e = .returned (.bool r) ∧ Drawn0 w w' := by
 have H := h; unfold lockageref05_tchar.f at H; clear h; have HC2 := aM H; clear H
 go_enter Tryz.func97, Tryz.ntmps97
 go_upto_region 1 with (fail)
 go_cut [25] (fun v25 wc => ∃ (kq : Nat) (x25_1 : Bool), v25 = .bool x25_1 ∧ Aside0 (lockageref05_tchar.j0 kq a0 x25_1 = some r) ∧ Aside0 (kq ≤ k) ∧ Drawn0 w wc)
 case first =>
  have H := HC2.out; clear HC2; by_cases c3 : a0 ≥ 48
  ·rw [if_pos c3] at H; have c3b0 := decide_eq_true c3; clear c3
   (first | rw [c3b0] | (simp only [i64_w, i32_w]; rw [c3b0]) | skip)
   by_cases c4 : a0 ≤ 57
   ·rw [if_pos c4] at H; have c4b0 := decide_eq_true c4; clear c4; have H' := aM H; clear H
    go_wp2
    go_meet
    case rel => exact ⟨_, (true), zR, H', ⟨by first | omega | exact Nat.le_refl _⟩, zD⟩
   ·rw [if_neg c4] at H; have c4b0 := decide_eq_false c4; clear c4; by_cases c5 : a0 ≥ 97
    ·rw [if_pos c5] at H; have c5b0 := decide_eq_true c5; clear c5; by_cases c6 : a0 ≤ 122
     ·rw [if_pos c6] at H; have c6b0 := decide_eq_true c6; clear c6; have H' := aM H; clear H
      go_wp2
      go_meet
      case rel => exact ⟨_, (true), zR, H', ⟨by first | omega | exact Nat.le_refl _⟩, zD⟩
     ·rw [if_neg c6] at H; have c6b0 := decide_eq_false c6; clear c6; by_cases c7 : a0 ≥ 65
      ·rw [if_pos c7] at H; have c7b0 := decide_eq_true c7; clear c7; have H' := aM H; clear H
       go_wp2
       go_meet
       case rel => exact ⟨_, (decide (a0 ≤ 90)), zR, H', ⟨by first | omega | exact Nat.le_refl _⟩, zD⟩
      ·rw [if_neg c7] at H; have c7b0 := decide_eq_false c7; clear c7; have H' := aM H; clear H
       go_wp2
       go_meet
       case rel => exact ⟨_, (false), zR, H', ⟨by first | omega | exact Nat.le_refl _⟩, zD⟩
    ·rw [if_neg c5] at H; have c5b0 := decide_eq_false c5; clear c5; by_cases c8 : a0 ≥ 65
     ·rw [if_pos c8] at H; have c8b0 := decide_eq_true c8; clear c8; have H' := aM H; clear H
      go_wp2
      go_meet
      case rel => exact ⟨_, (decide (a0 ≤ 90)), zR, H', ⟨by first | omega | exact Nat.le_refl _⟩, zD⟩
     ·rw [if_neg c8] at H; have c8b0 := decide_eq_false c8; clear c8; have H' := aM H; clear H
      go_wp2
      go_meet
      case rel => exact ⟨_, (false), zR, H', ⟨by first | omega | exact Nat.le_refl _⟩, zD⟩
  ·rw [if_neg c3] at H; have c3b0 := decide_eq_false c3; clear c3
   (first | rw [c3b0] | (simp only [i64_w, i32_w]; rw [c3b0]) | skip)
   by_cases c9 : a0 ≥ 97
   ·rw [if_pos c9] at H; have c9b0 := decide_eq_true c9; clear c9; by_cases c10 : a0 ≤ 122
    ·rw [if_pos c10] at H; have c10b0 := decide_eq_true c10; clear c10; have H' := aM H; clear H
     go_wp2
     go_meet
     case rel => exact ⟨_, (true), zR, H', ⟨by first | omega | exact Nat.le_refl _⟩, zD⟩
    ·rw [if_neg c10] at H; have c10b0 := decide_eq_false c10; clear c10; by_cases c11 : a0 ≥ 65
     ·rw [if_pos c11] at H; have c11b0 := decide_eq_true c11; clear c11; have H' := aM H; clear H
      go_wp2
      go_meet
      case rel => exact ⟨_, (decide (a0 ≤ 90)), zR, H', ⟨by first | omega | exact Nat.le_refl _⟩, zD⟩
     ·rw [if_neg c11] at H; have c11b0 := decide_eq_false c11; clear c11; have H' := aM H; clear H
      go_wp2
      go_meet
      case rel => exact ⟨_, (false), zR, H', ⟨by first | omega | exact Nat.le_refl _⟩, zD⟩
   ·rw [if_neg c9] at H; have c9b0 := decide_eq_false c9; clear c9; by_cases c12 : a0 ≥ 65
    ·rw [if_pos c12] at H; have c12b0 := decide_eq_true c12; clear c12; have H' := aM H; clear H
     go_wp2
     go_meet
     case rel => exact ⟨_, (decide (a0 ≤ 90)), zR, H', ⟨by first | omega | exact Nat.le_refl _⟩, zD⟩
    ·rw [if_neg c12] at H; have c12b0 := decide_eq_false c12; clear c12; have H' := aM H; clear H
     go_wp2
     go_meet
     case rel => exact ⟨_, (false), zR, H', ⟨by first | omega | exact Nat.le_refl _⟩, zD⟩
 case rest =>
  clear HC2; (try clear c1); (try clear p2); (try clear c3); (try clear c3b0); (try clear c4); (try clear c4b0); (try clear c5); (try clear c5b0); (try clear c6); (try clear c6b0); (try clear c7); (try clear c7b0); (try clear c8); (try clear c8b0); (try clear c9); (try clear c9b0); (try clear c10); (try clear c10b0); (try clear c11); (try clear c11b0); (try clear c12); (try clear c12b0); obtain ⟨kq, x25_1, rfl, HA, HJ1, ⟨mc1, rfl⟩⟩ := hcut; cases kq with
  | zero => exact absurd HA.out (by simp [lockageref05_tchar.j0])
  | succ kj1 =>
   have H := HA.out; clear HA; simp only [lockageref05_tchar.j0] at H; by_cases c13 : x25_1 = true
   ·subst c13; rw [if_pos rfl] at H; obtain rfl := Option.some.inj H
    go_wp2
    go_ret
    exact ⟨zR, zD⟩
   ·replace c13 := Bool.eq_false_iff.mpr c13; subst c13; rw [if_neg (show ¬ (false = true) by decide)] at H; have H' := aM H; clear H
    go_wp2
    go_loopg [3] kj1 (fun kq v3 w' => ∃ (x3_2 : Int), v3 = .int .i64 x3_2 ∧ Aside0 (lockageref05_tchar.l0 kq a0 x3_2 = some r) ∧ Aside0 (kq ≤ kj1) ∧ Drawn0 w w')
    case atStart => exact ⟨(0), zR, H', ⟨Nat.le_refl _⟩, zD⟩
    case round =>
     clear H'; (try clear c1); (try clear p2); (try clear c3); (try clear c3b0); (try clear c4); (try clear c4b0); (try clear c5); (try clear c5b0); (try clear c6); (try clear c6b0); (try clear c7); (try clear c7b0); (try clear c8); (try clear c8b0); (try clear c9); (try clear c9b0); (try clear c10); (try clear c10b0); (try clear c11); (try clear c11b0); (try clear c12); (try clear c12b0); (try clear c13); (try clear p2); obtain ⟨x3_2, rfl, HA, HK2, ⟨m2, rfl⟩⟩ := hrel; cases gk with
     | zero => exact absurd HA.out (by simp [lockageref05_tchar.l0])
     | succ k2 =>
      have H := HA.out; clear HA; simp only [lockageref05_tchar.l0] at H; by_cases c14 : x3_2 < 15
      ·rw [if_pos c14] at H; have c14b0 := decide_eq_true c14; clear c14; by_cases c15 : 0 ≤ x3_2
       ·rw [if_pos c15] at H; have c15b0 := decide_eq_true c15; clear c15; by_cases c17 : (bt (⟨#[33, 35, 36, 37, 38, 39, 42, 43, 45, 46, 94, 95, 96, 124, 126]⟩ : ByteArray) x3_2) = a0
        ·rw [if_pos c17] at H; obtain ⟨c17b0, c17b1⟩ := zd c17; clear c17; obtain rfl := Option.some.inj H; have p16 : 0 ≤ (x3_2 : Int) := of_decide_eq_true zA; have q16 : x3_2 < (15 : Int) := of_decide_eq_true zA; have hx16 := bt_at (⟨#[33, 35, 36, 37, 38, 39, 42, 43, 45, 46, 94, 95, 96, 124, 126]⟩ : ByteArray) x3_2; replace p16 := eq_true p16; replace q16 := eq_true q16
         go_wp2
         go_ret
         exact ⟨zR, zD⟩
        ·rw [if_neg c17] at H; obtain ⟨c17b0, c17b1⟩ := ze c17; have H' := aM H; clear H; have p16 : 0 ≤ (x3_2 : Int) := of_decide_eq_true zA; have q16 : x3_2 < (15 : Int) := of_decide_eq_true zA; have hx16 := bt_at (⟨#[33, 35, 36, 37, 38, 39, 42, 43, 45, 46, 94, 95, 96, 124, 126]⟩ : ByteArray) x3_2; replace p16 := eq_true p16; replace q16 := eq_true q16
         go_wp2
         go_roundg k2
         case measure => have := HJ1.out; have := HK2.out; omega
         case rel => exact ⟨(wrap64 (x3_2 + 1)), zR, H', ⟨by have := HJ1.out; have := HK2.out; omega⟩, zD⟩
       ·exact zf c15 H
      ·rw [if_neg c14] at H; have c14b0 := decide_eq_false c14; clear c14; obtain rfl := Option.some.inj H
       go_wp2
       go_ret
       exact ⟨zR, zD⟩

end Go.Proofs.YtapeodbgobkjeaaGreatDoor.P
