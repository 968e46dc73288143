/- Printed by a program of the session out of the translation: plain Lean functions, each with the contract that the Go function computes it. -/
import Derived.Test.YtapeodbgobkjeaaGreatDoorHZM
import Derived.Test.YtapeodbgobkjeaaGreatDoorPx0
namespace Go.Proofs.YtapeodbgobkjeaaGreatDoor.P
open Go.RowKit Go.Proofs.YtapeodbgobkjeaaGreatDoorW.PrintWords Go.Proofs.YtapeodbgobkjeaaGreatDoorW.PrintLast Go.Proofs.YtapeodbgobkjeaaGreatDoorW.PrintMore
attribute [local go_sem] max2_int min2_int max_two min_two max_three min_three max_four min_four   -- for this text's walks alone
set_option linter.unusedVariables false
set_option linter.unusedSimpArgs false

mutual
def head_within.l0 : Nat → ByteArray → Int → Bool → Int → Int → Option (Bool)
 | 0, _, _, _, _, _ => none
 | k + 1, x0, x1, x2, x9, x10 => if x10 < x9 then (if 0 ≤ x10 then (if x10 < (x0.size : Int) then (if (bt x0 x10) < x1 then (if x2 = true then (head_within.j1 k x0 x1 x2 x9 x10 ((bt x0 x10) != 9)) else (head_within.j1 k x0 x1 x2 x9 x10 true)) else (if (bt x0 x10) > 126 then (if x2 = true then (head_within.j1 k x0 x1 x2 x9 x10 ((bt x0 x10) != 9)) else (head_within.j1 k x0 x1 x2 x9 x10 true)) else (head_within.j1 k x0 x1 x2 x9 x10 false))) else (none)) else (none)) else (some true)
def head_within.j1 : Nat → ByteArray → Int → Bool → Int → Int → Bool → Option (Bool)
 | 0, _, _, _, _, _, _ => none
 | k + 1, x0, x1, x2, x9, x10, x33 => if x33 = true then (some false) else (head_within.l0 k x0 x1 x2 x9 (wrap64 (x10 + 1)))
end
def head_within.f (k : Nat) (a0 : ByteArray) (a1 : Int) (a2 : Bool) : Option (Bool) := head_within.l0 k a0 a1 a2 (a0.size : Int) 0
theorem head_within.mono_l : ∀ k, (∀ y0 y1 y2 y3 y4, LeO (head_within.l0 k y0 y1 y2 y3 y4) (head_within.l0 (k + 1) y0 y1 y2 y3 y4)) ∧ (∀ y0 y1 y2 y3 y4 y5, LeO (head_within.j1 k y0 y1 y2 y3 y4 y5) (head_within.j1 (k + 1) y0 y1 y2 y3 y4 y5))
 | 0 => ⟨fun _ _ _ _ _ r h => by simp [head_within.l0] at h, fun _ _ _ _ _ _ r h => by simp [head_within.j1] at h⟩
 | k + 1 => by
  obtain ⟨ih0, ih1⟩ := head_within.mono_l k
  refine ⟨?_, ?_⟩
  ·intro y0 y1 y2 y3 y4
   unfold head_within.l0; exact zM
  ·intro y0 y1 y2 y3 y4 y5
   unfold head_within.j1; exact zM
theorem head_within.mono : ∀ a0 a1 a2 k, LeO (head_within.f k a0 a1 a2) (head_within.f (k + 1) a0 a1 a2) := by
 intro a0 a1 a2 k
 obtain ⟨ih0, ih1⟩ := head_within.mono_l k
 unfold head_within.f; exact zM
set_option maxHeartbeats 8000000 in
set_option maxRecDepth 100000 in
theorem head_within.calls (k : Nat) (a0 : ByteArray) (a1 : Int) (a2 : Bool) (r : Bool) (w : World) (h : head_within.f k a0 a1 a2 = some r) :
  Calls Tryz.prog 95 #[.string a0, .int .u8 a1, .bool a2] w fun e w' => e = .returned (.bool r) ∧ Drawn0 w w' := by
 have H : (head_within.l0 k a0 a1 a2 (a0.size : Int) 0) = some r := h; clear h; have H' := aM H; clear H
 go_enter Tryz.func95, Tryz.ntmps95
 go_wp2
 go_loopg [10] k (fun kq v10 w' => ∃ (x10_1 : Int), v10 = .int .i64 x10_1 ∧ Aside0 (head_within.l0 kq a0 a1 a2 (a0.size : Int) x10_1 = some r) ∧ Aside0 (kq ≤ k) ∧ Drawn0 w w')
 case atStart => exact ⟨(0), zR, H', ⟨Nat.le_refl _⟩, zD⟩
 case round =>
  clear H'; (try clear p2); obtain ⟨x10_1, rfl, HA, HK1, ⟨m1, rfl⟩⟩ := hrel; cases gk with
  | zero => exact absurd HA.out (by simp [head_within.l0])
  | succ k1 =>
   have H := HA.out; clear HA; simp only [head_within.l0] at H; by_cases c4 : x10_1 < (a0.size : Int)
   ·rw [if_pos c4] at H; have c4b0 := decide_eq_true c4; clear c4; have HC5 := aM H; clear H
    go_upto_region 4 with (fail)
    go_cut [33] (fun v33 wc => ∃ (kq : Nat) (x33_4 : Bool), v33 = .bool x33_4 ∧ Aside0 (head_within.j1 kq a0 a1 a2 (a0.size : Int) x10_1 x33_4 = some r) ∧ Aside0 (kq ≤ k1) ∧ Drawn0 w wc)
    case first =>
     have H := HC5.out; clear HC5; by_cases c6 : 0 ≤ x10_1
     ·rw [if_pos c6] at H; have c6b0 := decide_eq_true c6; clear c6
      (first | rw [c6b0] | (simp only [i64_w, i32_w]; rw [c6b0]) | skip)
      by_cases c7 : x10_1 < (a0.size : Int)
      ·rw [if_pos c7] at H; have c7b0 := decide_eq_true c7; clear c7; by_cases c9 : (bt a0 x10_1) < a1
       ·rw [if_pos c9] at H; have c9b0 := decide_eq_true c9; clear c9; by_cases c10 : a2 = true
        ·subst c10; rw [if_pos rfl] at H; have H' := aM H; clear H; have p8 : 0 ≤ (x10_1 : Int) := of_decide_eq_true zA; have q8 : x10_1 < (a0.size : Int) := of_decide_eq_true zA; have hx8 := bt_at a0 x10_1; replace p8 := eq_true p8; replace q8 := eq_true q8; have p11 : 0 ≤ (x10_1 : Int) := of_decide_eq_true zA; have q11 : x10_1 < (a0.size : Int) := of_decide_eq_true zA; have hx11 := bt_at a0 x10_1; replace p11 := eq_true p11; replace q11 := eq_true q11
         go_wp2
         go_meet
         case rel => exact ⟨_, (((bt a0 x10_1) != 9)), zR, H', ⟨by have := HK1.out; first | omega | exact Nat.le_refl _⟩, zD⟩
        ·replace c10 := Bool.eq_false_iff.mpr c10; subst c10; rw [if_neg (show ¬ (false = true) by decide)] at H; have H' := aM H; clear H; have p8 : 0 ≤ (x10_1 : Int) := of_decide_eq_true zA; have q8 : x10_1 < (a0.size : Int) := of_decide_eq_true zA; have hx8 := bt_at a0 x10_1; replace p8 := eq_true p8; replace q8 := eq_true q8
         go_wp2
         go_meet
         case rel => exact ⟨_, (true), zR, H', ⟨by have := HK1.out; first | omega | exact Nat.le_refl _⟩, zD⟩
       ·rw [if_neg c9] at H; have c9b0 := decide_eq_false c9; clear c9; by_cases c13 : (bt a0 x10_1) > 126
        ·rw [if_pos c13] at H; have c13b0 := decide_eq_true c13; clear c13; by_cases c14 : a2 = true
         ·subst c14; rw [if_pos rfl] at H; have H' := aM H; clear H; have p8 : 0 ≤ (x10_1 : Int) := of_decide_eq_true zA; have q8 : x10_1 < (a0.size : Int) := of_decide_eq_true zA; have hx8 := bt_at a0 x10_1; replace p8 := eq_true p8; replace q8 := eq_true q8; have p12 : 0 ≤ (x10_1 : Int) := of_decide_eq_true zA; have q12 : x10_1 < (a0.size : Int) := of_decide_eq_true zA; have hx12 := bt_at a0 x10_1; replace p12 := eq_true p12; replace q12 := eq_true q12; have p15 : 0 ≤ (x10_1 : Int) := of_decide_eq_true zA; have q15 : x10_1 < (a0.size : Int) := of_decide_eq_true zA; have hx15 := bt_at a0 x10_1; replace p15 := eq_true p15; replace q15 := eq_true q15
          go_wp2
          go_meet
          case rel => exact ⟨_, (((bt a0 x10_1) != 9)), zR, H', ⟨by have := HK1.out; first | omega | exact Nat.le_refl _⟩, zD⟩
         ·replace c14 := Bool.eq_false_iff.mpr c14; subst c14; rw [if_neg (show ¬ (false = true) by decide)] at H; have H' := aM H; clear H; have p8 : 0 ≤ (x10_1 : Int) := of_decide_eq_true zA; have q8 : x10_1 < (a0.size : Int) := of_decide_eq_true zA; have hx8 := bt_at a0 x10_1; replace p8 := eq_true p8; replace q8 := eq_true q8; have p12 : 0 ≤ (x10_1 : Int) := of_decide_eq_true zA; have q12 : x10_1 < (a0.size : Int) := of_decide_eq_true zA; have hx12 := bt_at a0 x10_1; replace p12 := eq_true p12; replace q12 := eq_true q12
          go_wp2
          go_meet
          case rel => exact ⟨_, (true), zR, H', ⟨by have := HK1.out; first | omega | exact Nat.le_refl _⟩, zD⟩
        ·rw [if_neg c13] at H; have c13b0 := decide_eq_false c13; clear c13; have H' := aM H; clear H; have p8 : 0 ≤ (x10_1 : Int) := of_decide_eq_true zA; have q8 : x10_1 < (a0.size : Int) := of_decide_eq_true zA; have hx8 := bt_at a0 x10_1; replace p8 := eq_true p8; replace q8 := eq_true q8; have p12 : 0 ≤ (x10_1 : Int) := of_decide_eq_true zA; have q12 : x10_1 < (a0.size : Int) := of_decide_eq_true zA; have hx12 := bt_at a0 x10_1; replace p12 := eq_true p12; replace q12 := eq_true q12
         go_wp2
         go_meet
         case rel => exact ⟨_, (false), zR, H', ⟨by have := HK1.out; first | omega | exact Nat.le_refl _⟩, zD⟩
      ·exact zf c7 H
     ·exact zf c6 H
    case rest =>
     clear HC5; (try clear c1); (try clear p1); (try clear q1); (try clear hx1); (try clear p2); (try clear c4); (try clear c4b0); (try clear c6); (try clear c6b0); (try clear c7); (try clear c7b0); (try clear p8); (try clear q8); (try clear hx8); (try clear c9); (try clear c9b0); (try clear c10); (try clear p11); (try clear q11); (try clear hx11); (try clear p12); (try clear q12); (try clear hx12); (try clear c13); (try clear c13b0); (try clear c14); (try clear p15); (try clear q15); (try clear hx15); (try clear p11); (try clear p12); (try clear p15); (try clear p2); (try clear p8); (try clear q11); (try clear q12); (try clear q15); (try clear q8); obtain ⟨kq, x33_4, rfl, HA, HJ4, ⟨mc4, rfl⟩⟩ := hcut; cases kq with
     | zero => exact absurd HA.out (by simp [head_within.j1])
     | succ kj4 =>
      have H := HA.out; clear HA; simp only [head_within.j1] at H; by_cases c16 : x33_4 = true
      ·subst c16; rw [if_pos rfl] at H; obtain rfl := Option.some.inj H
       go_wp2
       go_ret
       exact ⟨zR, zD⟩
      ·replace c16 := Bool.eq_false_iff.mpr c16; subst c16; rw [if_neg (show ¬ (false = true) by decide)] at H; have H' := aM H; clear H
       go_wp2
       go_roundg kj4
       case measure => have := HK1.out; have := HJ4.out; omega
       case rel => exact ⟨(wrap64 (x10_1 + 1)), zR, H', ⟨by have := HK1.out; have := HJ4.out; omega⟩, zD⟩
   ·rw [if_neg c4] at H; have c4b0 := decide_eq_false c4; clear c4; obtain rfl := Option.some.inj H
    go_wp2
    go_ret
    exact ⟨zR, zD⟩

def head_target.f (k : Nat) (a0 : ByteArray) : Option (Bool) := if a0.toList = ([] : List UInt8) then (some false) else (if (a0.size : Int) ≤ 200 then ((head_within.f k a0 33 false).bind fun t101 => (some t101)) else (some false))
theorem head_target.mono : ∀ a0 k, LeO (head_target.f k a0) (head_target.f (k + 1) a0) := by
 intro a0 k
 unfold head_target.f; have m0 := @head_within.mono; exact zM
set_option maxHeartbeats 8000000 in
set_option maxRecDepth 100000 in
theorem head_target.calls (k : Nat) (a0 : ByteArray) (r : Bool) (w : World) (h : head_target.f k a0 = some r) :
  Calls Tryz.prog 71 #[.string a0] w fun e w' => e = .returned (.bool r) ∧ Drawn0 w w' := by
 have H : (if a0.toList = ([] : List UInt8) then (some false) else (if (a0.size : Int) ≤ 200 then ((head_within.f k a0 33 false).bind fun t101 => (some t101)) else (some false))) = some r := h; clear h; by_cases c2 : a0.toList = ([] : List UInt8)
 ·rw [if_pos c2] at H; obtain ⟨c2b0, c2b1⟩ := zd c2; clear c2; obtain rfl := Option.some.inj H
  go_enter Tryz.func71, Tryz.ntmps71
  go_wp2
  go_ret
  exact ⟨zR, zD⟩
 ·rw [if_neg c2] at H; obtain ⟨c2b0, c2b1⟩ := ze c2; by_cases c3 : (a0.size : Int) ≤ 200
  ·rw [if_pos c3] at H; have c3b0 := decide_eq_true c3; have c3b1 : decide (a0.size ≤ 200) = true := decide_eq_true (by omega); clear c3; replace H := Option.bind_eq_some_iff.mp H; obtain ⟨t101, A40, H⟩ := H; replace H : (some t101) = some r := H; have A4 := aM A40; clear A40; obtain rfl := Option.some.inj H
   go_enter Tryz.func71, Tryz.ntmps71
   go_wp2_with (first | (go_at_call 95; (with_reducible refine (head_within.calls k a0 33 false t101 _ A4.out).mono ?_); rintro e w' ⟨rfl, ⟨nd, rfl⟩⟩))
   go_ret
   exact ⟨zR, zD⟩
  ·rw [if_neg c3] at H; have c3b0 := decide_eq_false c3; have c3b1 : decide (a0.size ≤ 200) = false := decide_eq_false (by omega); clear c3; obtain rfl := Option.some.inj H
   go_enter Tryz.func71, Tryz.ntmps71
   go_wp2
   go_ret
   exact ⟨zR, zD⟩

def head_target.Pure : Prop := ∀ (a0 : ByteArray), a0.size ≤ 140737488351232 → ∃ k, head_target.f k a0 = some true
theorem head_target.walk (P : head_target.Pure) (a0 : ByteArray) (w : World) (w0 : a0.size ≤ 140737488351232) :
  Calls Tryz.prog 71 #[.string a0] w fun e w' => e = .returned (.bool true) ∧ Below w.heap.size w w' := by
 obtain ⟨k, h⟩ := P a0 w0
 refine (head_target.calls k a0 true w h).mono ?_
 rintro e w' ⟨rfl, hd⟩
 exact ⟨rfl, hd.below⟩

def num_Fits.f (a0 : Int) : Option (Bool) := if a0 ≥ 0 then (some (decide (a0 ≤ 9007199254740992))) else (some false)
set_option maxHeartbeats 8000000 in
set_option maxRecDepth 100000 in
theorem num_Fits.calls (a0 : Int) (r : Bool) (w : World) (h : num_Fits.f a0 = some r) :
  Calls Tryz.prog 56 #[.int .i64 a0] w fun e w' => e = .returned (.bool r) ∧ Drawn0 w w' := by
 have H : (if a0 ≥ 0 then (some (decide (a0 ≤ 9007199254740992))) else (some false)) = some r := h; clear h; by_cases c2 : a0 ≥ 0
 ·rw [if_pos c2] at H; have c2b0 := decide_eq_true c2; clear c2; obtain rfl := Option.some.inj H
  go_enter Tryz.func56, Tryz.ntmps56
  go_wp2
  go_ret
  exact ⟨zR, zD⟩
 ·rw [if_neg c2] at H; have c2b0 := decide_eq_false c2; clear c2; obtain rfl := Option.some.inj H
  go_enter Tryz.func56, Tryz.ntmps56
  go_wp2
  go_ret
  exact ⟨zR, zD⟩

mutual
def num_digit.j2 : Nat → Int → Int → Option (Int)
 | 0, _, _ => none
 | k + 1, x1, x5 => if x1 = 16 then (some (wrap64 ((wrap64 (x5 - 97)) + 10))) else (some (-1))
def num_digit.j0 : Nat → Int → Int → Int → Bool → Option (Int)
 | 0, _, _, _, _ => none
 | k + 1, x0, x1, x5, x8 => if x8 = true then (some (wrap64 (x5 - 48))) else (if x0 ≥ 65 then (num_digit.j1 k x0 x1 x5 (decide (x0 ≤ 70))) else (num_digit.j1 k x0 x1 x5 false))
def num_digit.j1 : Nat → Int → Int → Int → Bool → Option (Int)
 | 0, _, _, _, _ => none
 | k + 1, x0, x1, x5, x15 => if x15 = true then (num_digit.j2 k x1 (wrap64 (x5 + 32))) else (if x0 ≥ 97 then (if x0 ≤ 102 then (num_digit.j2 k x1 x5) else (some (-1))) else (some (-1)))
end
def num_digit.f (k : Nat) (a0 : Int) (a1 : Int) : Option (Int) := if a0 ≥ 48 then (num_digit.j0 k a0 a1 (wrap64 (a0)) (decide (a0 ≤ 57))) else (num_digit.j0 k a0 a1 (wrap64 (a0)) false)
theorem num_digit.mono_l : ∀ k, (∀ y0 y1, LeO (num_digit.j2 k y0 y1) (num_digit.j2 (k + 1) y0 y1)) ∧ (∀ y0 y1 y2 y3, LeO (num_digit.j0 k y0 y1 y2 y3) (num_digit.j0 (k + 1) y0 y1 y2 y3)) ∧ (∀ y0 y1 y2 y3, LeO (num_digit.j1 k y0 y1 y2 y3) (num_digit.j1 (k + 1) y0 y1 y2 y3))
 | 0 => ⟨fun _ _ r h => by simp [num_digit.j2] at h, fun _ _ _ _ r h => by simp [num_digit.j0] at h, fun _ _ _ _ r h => by simp [num_digit.j1] at h⟩
 | k + 1 => by
  obtain ⟨ih0, ih1, ih2⟩ := num_digit.mono_l k
  refine ⟨?_, ?_, ?_⟩
  ·intro y0 y1
   unfold num_digit.j2; exact zM
  ·intro y0 y1 y2 y3
   unfold num_digit.j0; exact zM
  ·intro y0 y1 y2 y3
   unfold num_digit.j1; exact zM
theorem num_digit.mono : ∀ a0 a1 k, LeO (num_digit.f k a0 a1) (num_digit.f (k + 1) a0 a1) := by
 intro a0 a1 k
 obtain ⟨ih0, ih1, ih2⟩ := num_digit.mono_l k
 unfold num_digit.f; exact zM
set_option maxHeartbeats 8000000 in
set_option maxRecDepth 100000 in
theorem num_digit.calls (k : Nat) (a0 : Int) (a1 : Int) (r : Int) (w : World) (h : num_digit.f k a0 a1 = some r) :
  Calls Tryz.prog 175 #[.int .u8 a0, .int .i64 a1] w fun e w' => e = .returned (.int .i64 r) ∧ Drawn0 w w' := by
 have H : (if a0 ≥ 48 then (num_digit.j0 k a0 a1 (wrap64 (a0)) (decide (a0 ≤ 57))) else (num_digit.j0 k a0 a1 (wrap64 (a0)) false)) = some r := h; clear h; have HC3 := aM H; clear H
 go_enter Tryz.func175, Tryz.ntmps175
 go_upto_block 3 with (fail)
 go_cut [5] (fun v5 wc => ∃ (kq : Nat) (x5_2 : Int), v5 = .int .i64 x5_2 ∧ Aside0 (num_digit.j2 kq a1 x5_2 = some r) ∧ Aside0 (kq ≤ k) ∧ Drawn0 w wc)
 case first =>
  have H := HC3.out; clear HC3; have HC4 := aM H; clear H
  go_upto_region 2 with (fail)
  go_cut [8] (fun v8 wc => ∃ (kq : Nat) (x8_3 : Bool), v8 = .bool x8_3 ∧ Aside0 (num_digit.j0 kq a0 a1 (wrap64 (a0)) x8_3 = some r) ∧ Aside0 (kq ≤ k) ∧ Drawn0 w wc)
  case first =>
   have H := HC4.out; clear HC4; by_cases c5 : a0 ≥ 48
   ·rw [if_pos c5] at H; have c5b0 := decide_eq_true c5; clear c5
    (first | rw [c5b0] | (simp only [i64_w, i32_w]; rw [c5b0]) | skip)
    have H' := aM H; clear H
    go_wp2
    go_meet
    case rel => exact ⟨_, (decide (a0 ≤ 57)), zR, H', ⟨by first | omega | exact Nat.le_refl _⟩, zD⟩
   ·rw [if_neg c5] at H; have c5b0 := decide_eq_false c5; clear c5
    (first | rw [c5b0] | (simp only [i64_w, i32_w]; rw [c5b0]) | skip)
    have H' := aM H; clear H
    go_wp2
    go_meet
    case rel => exact ⟨_, (false), zR, H', ⟨by first | omega | exact Nat.le_refl _⟩, zD⟩
  case rest =>
   clear HC4; (try clear c1); (try clear p2); (try clear c5); (try clear c5b0); obtain ⟨kq, x8_3, rfl, HA, HJ3, ⟨mc3, rfl⟩⟩ := hcut; cases kq with
   | zero => exact absurd HA.out (by simp [num_digit.j0])
   | succ kj3 =>
    have H := HA.out; clear HA; simp only [num_digit.j0] at H; by_cases c6 : x8_3 = true
    ·subst c6; rw [if_pos rfl] at H; obtain rfl := Option.some.inj H
     go_wp2
     go_ret
     exact ⟨zR, zD⟩
    ·replace c6 := Bool.eq_false_iff.mpr c6; subst c6; rw [if_neg (show ¬ (false = true) by decide)] at H; have HC7 := aM H; clear H
     go_upto_region 3 with (fail)
     go_cut [15] (fun v15 wc => ∃ (kq : Nat) (x15_6 : Bool), v15 = .bool x15_6 ∧ Aside0 (num_digit.j1 kq a0 a1 (wrap64 (a0)) x15_6 = some r) ∧ Aside0 (kq ≤ kj3) ∧ Drawn0 w wc)
     case first =>
      have H := HC7.out; clear HC7; by_cases c8 : a0 ≥ 65
      ·rw [if_pos c8] at H; have c8b0 := decide_eq_true c8; clear c8
       (first | rw [c8b0] | (simp only [i64_w, i32_w]; rw [c8b0]) | skip)
       have H' := aM H; clear H
       go_wp2
       go_meet
       case rel => exact ⟨_, (decide (a0 ≤ 70)), zR, H', ⟨by have := HJ3.out; first | omega | exact Nat.le_refl _⟩, zD⟩
      ·rw [if_neg c8] at H; have c8b0 := decide_eq_false c8; clear c8
       (first | rw [c8b0] | (simp only [i64_w, i32_w]; rw [c8b0]) | skip)
       have H' := aM H; clear H
       go_wp2
       go_meet
       case rel => exact ⟨_, (false), zR, H', ⟨by have := HJ3.out; first | omega | exact Nat.le_refl _⟩, zD⟩
     case rest =>
      clear HC7; (try clear c1); (try clear p2); (try clear c3); (try clear c5); (try clear c5b0); (try clear c6); (try clear p6); (try clear c8); (try clear c8b0); (try clear p2); obtain ⟨kq, x15_6, rfl, HA, HJ6, ⟨mc6, rfl⟩⟩ := hcut; cases kq with
      | zero => exact absurd HA.out (by simp [num_digit.j1])
      | succ kj6 =>
       have H := HA.out; clear HA; simp only [num_digit.j1] at H; by_cases c9 : x15_6 = true
       ·subst c9; rw [if_pos rfl] at H; have H' := aM H; clear H
        go_wp2
        go_meet
        case rel => exact ⟨_, (wrap64 ((wrap64 (a0)) + 32)), zR, H', ⟨by have := HJ3.out; have := HJ6.out; first | omega | exact Nat.le_refl _⟩, zD⟩
       ·replace c9 := Bool.eq_false_iff.mpr c9; subst c9; rw [if_neg (show ¬ (false = true) by decide)] at H; by_cases c10 : a0 ≥ 97
        ·rw [if_pos c10] at H; have c10b0 := decide_eq_true c10; clear c10; by_cases c11 : a0 ≤ 102
         ·rw [if_pos c11] at H; have c11b0 := decide_eq_true c11; clear c11; have H' := aM H; clear H
          go_wp2
          go_meet
          case rel => exact ⟨_, ((wrap64 (a0))), zR, H', ⟨by have := HJ3.out; have := HJ6.out; first | omega | exact Nat.le_refl _⟩, zD⟩
         ·rw [if_neg c11] at H; have c11b0 := decide_eq_false c11; clear c11; obtain rfl := Option.some.inj H
          go_wp2
          go_ret
          exact ⟨zR, zD⟩
        ·rw [if_neg c10] at H; have c10b0 := decide_eq_false c10; clear c10; obtain rfl := Option.some.inj H
         go_wp2
         go_ret
         exact ⟨zR, zD⟩
 case rest =>
  clear HC3; (try clear c1); (try clear p2); (try clear c3); (try clear c5); (try clear c5b0); (try clear c6); (try clear p6); (try clear c8); (try clear c8b0); (try clear c9); (try clear c10); (try clear c10b0); (try clear c11); (try clear c11b0); (try clear p2); (try clear p6); obtain ⟨kq, x5_2, rfl, HA, HJ2, ⟨mc2, rfl⟩⟩ := hcut; cases kq with
  | zero => exact absurd HA.out (by simp [num_digit.j2])
  | succ kj2 =>
   have H := HA.out; clear HA; simp only [num_digit.j2] at H; by_cases c12 : a1 = 16
   ·rw [if_pos c12] at H; obtain ⟨c12b0, c12b1⟩ := zd c12; clear c12; obtain rfl := Option.some.inj H
    go_wp2
    go_ret
    exact ⟨zR, zD⟩
   ·rw [if_neg c12] at H; obtain ⟨c12b0, c12b1⟩ := ze c12; obtain rfl := Option.some.inj H
    go_wp2
    go_ret
    exact ⟨zR, zD⟩

end Go.Proofs.YtapeodbgobkjeaaGreatDoor.P
