/- Printed by a program of the session out of the translation: plain Lean functions, each with the contract that the Go function computes it. -/
import Derived.Test.YthmallhjbhphgaaGreatDoorHZm
import Derived.Test.YthmallhjbhphgaaGreatDoorHZ
import Derived.Test.YthmallhjbhphgaaGreatDoorPx0
import Derived.Test.YthmallhjbhphgaaGreatDoorPx7
namespace Go.Proofs.YthmallhjbhphgaaGreatDoor.P
open Go.RowKit Go.Proofs.YthmallhjbhphgaaGreatDoorW.PrintWords Go.Proofs.YthmallhjbhphgaaGreatDoorW.PrintLast Go.Proofs.YthmallhjbhphgaaGreatDoorW.PrintMore
attribute [local go_sem] max2_int min2_int max_two min_two max_three min_three max_four min_four   -- for this text's walks alone
set_option linter.unusedVariables false
set_option linter.unusedSimpArgs false

def lockageref03_Add.j0 : Nat → Int → Int → Bool → Option (Int × Int)
 | 0, _, _, _ => none
 | k + 1, x0, x1, x13 => if x13 = true then (some (0, 1)) else (if x0 > (wrap64 (9007199254740992 - x1)) then (some (0, 3)) else (some (wrap64 (x0 + x1), 0)))
def lockageref03_Add.f (k : Nat) (a0 : Int) (a1 : Int) : Option (Int × Int) := (lockageref03_Fits.f a0).bind fun t297 => (if t297 = true then ((lockageref03_Fits.f a1).bind fun t298 => (lockageref03_Add.j0 k a0 a1 (!t298))) else (lockageref03_Add.j0 k a0 a1 true))
theorem lockageref03_Add.mono_l : ∀ k, (∀ y0 y1 y2, LeO (lockageref03_Add.j0 k y0 y1 y2) (lockageref03_Add.j0 (k + 1) y0 y1 y2))
 | 0 => fun _ _ _ r h => by simp [lockageref03_Add.j0] at h
 | k + 1 => by
  have ih0 := lockageref03_Add.mono_l k
  ·intro y0 y1 y2
   unfold lockageref03_Add.j0; exact zM
theorem lockageref03_Add.mono : ∀ a0 a1 k, LeO (lockageref03_Add.f k a0 a1) (lockageref03_Add.f (k + 1) a0 a1) := by
 intro a0 a1 k
 have ih0 := lockageref03_Add.mono_l k
 unfold lockageref03_Add.f; exact zM
set_option maxHeartbeats 8000000 in
set_option maxRecDepth 100000 in
theorem lockageref03_Add.calls (k : Nat) (a0 : Int) (a1 : Int) (r1 : Int) (r2 : Int) (w : World) (h : lockageref03_Add.f k a0 a1 = some (r1, r2)) :
  Calls Tryz.prog 103 #[.int .i64 a0, .int .i64 a1] w fun e w' => e = .returned (.tuple #[.int .i64 r1, .int .i64 r2]) ∧ Drawn0 w w' := by
 have H : ((lockageref03_Fits.f a0).bind fun t297 => (if t297 = true then ((lockageref03_Fits.f a1).bind fun t298 => (lockageref03_Add.j0 k a0 a1 (!t298))) else (lockageref03_Add.j0 k a0 a1 true))) = some (r1, r2) := h; clear h; have HC3 := aM H; clear H
 go_enter Tryz.func103, Tryz.ntmps103
 go_upto_region 1 with (fail)
 go_cut [13] (fun v13 wc => ∃ (kq : Nat) (x13_2 : Bool), v13 = .bool x13_2 ∧ Aside0 (lockageref03_Add.j0 kq a0 a1 x13_2 = some (r1, r2)) ∧ Aside0 (kq ≤ k) ∧ Drawn0 w wc)
 case first =>
  have H := HC3.out; clear HC3; replace H := Option.bind_eq_some_iff.mp H; obtain ⟨t297, A40, H⟩ := H; replace H : (if t297 = true then ((lockageref03_Fits.f a1).bind fun t298 => (lockageref03_Add.j0 k a0 a1 (!t298))) else (lockageref03_Add.j0 k a0 a1 true)) = some (r1, r2) := H; have A4 := aM A40; clear A40; by_cases c5 : t297 = true
  ·subst c5; rw [if_pos rfl] at H; replace H := Option.bind_eq_some_iff.mp H; obtain ⟨t298, A60, H⟩ := H; replace H : (lockageref03_Add.j0 k a0 a1 (!t298)) = some (r1, r2) := H; have A6 := aM A60; clear A60; have H' := aM H; clear H
   go_wp2_with (first | ((with_reducible refine gate_callee (f := 117) rfl ?_); refine goesL_ (some 7) rfl rfl Tryz.func117 (by kernel_rfl) rfl #[.int .i64 a0] rfl zL ?_; (with_reducible refine (lockageref03_Fits.calls a0 true _ A4.out).mono ?_); rintro e w' ⟨rfl, ⟨nd, rfl⟩⟩; refine ⟨_, rfl, ?_⟩) | (go_at_call 117; (with_reducible refine (lockageref03_Fits.calls a1 t298 _ A6.out).mono ?_); rintro e w' ⟨rfl, ⟨nd, rfl⟩⟩))
   go_meet
   case rel => exact ⟨_, (!t298), zR, H', ⟨by first | omega | exact Nat.le_refl _⟩, zD⟩
  ·replace c5 := Bool.eq_false_iff.mpr c5; subst c5; rw [if_neg (show ¬ (false = true) by decide)] at H; have H' := aM H; clear H
   go_wp2_with (first | ((with_reducible refine gate_callee (f := 117) rfl ?_); refine goesL_ (some 7) rfl rfl Tryz.func117 (by kernel_rfl) rfl #[.int .i64 a0] rfl zL ?_; (with_reducible refine (lockageref03_Fits.calls a0 false _ A4.out).mono ?_); rintro e w' ⟨rfl, ⟨nd, rfl⟩⟩; refine ⟨_, rfl, ?_⟩))
   go_meet
   case rel => exact ⟨_, (true), zR, H', ⟨by first | omega | exact Nat.le_refl _⟩, zD⟩
 case rest =>
  clear HC3; (try clear c1); (try clear p2); (try clear c5); obtain ⟨kq, x13_2, rfl, HA, HJ2, ⟨mc2, rfl⟩⟩ := hcut; cases kq with
  | zero => exact absurd HA.out (by simp [lockageref03_Add.j0])
  | succ kj2 =>
   have H := HA.out; clear HA; simp only [lockageref03_Add.j0] at H; by_cases c7 : x13_2 = true
   ·subst c7; rw [if_pos rfl] at H; simp only [Option.some.injEq, Prod.mk.injEq] at H; obtain ⟨rfl, rfl⟩ := H
    go_wp2
    go_ret2
    exact ⟨zR, zD⟩
   ·replace c7 := Bool.eq_false_iff.mpr c7; subst c7; rw [if_neg (show ¬ (false = true) by decide)] at H; by_cases c8 : a0 > (wrap64 (9007199254740992 - a1))
    ·rw [if_pos c8] at H; have c8b0 := decide_eq_true c8; clear c8; simp only [Option.some.injEq, Prod.mk.injEq] at H; obtain ⟨rfl, rfl⟩ := H
     go_wp2
     go_ret2
     exact ⟨zR, zD⟩
    ·rw [if_neg c8] at H; have c8b0 := decide_eq_false c8; clear c8; simp only [Option.some.injEq, Prod.mk.injEq] at H; obtain ⟨rfl, rfl⟩ := H
     go_wp2
     go_ret2
     exact ⟨zR, zD⟩

mutual
def lockageref03_Parse.j0 : Nat → ByteArray → Int → Bool → Option (Int × Int)
 | 0, _, _, _ => none
 | k + 1, x0, x1, x22 => if x22 = true then (some (0, 1)) else (lockageref03_Parse.l0 k x0 x1 0)
def lockageref03_Parse.l0 : Nat → ByteArray → Int → Int → Option (Int × Int)
 | 0, _, _, _ => none
 | k + 1, x0, x1, x6 => if x6 < (x0.size : Int) then (if 0 ≤ x6 then ((lockageref03_value.f k (bt x0 x6) x1).bind fun t299 => (if t299 < 0 then (some (0, 1)) else (lockageref03_Parse.l0 k x0 x1 (wrap64 (x6 + 1))))) else (none)) else (lockageref03_Parse.l1 k x0 x1 0 0)
def lockageref03_Parse.l1 : Nat → ByteArray → Int → Int → Int → Option (Int × Int)
 | 0, _, _, _, _ => none
 | k + 1, x0, x1, x7, x8 => if x8 < (x0.size : Int) then ((lockageref03_Mul.f k x7 x1).bind fun bt300 => (if 0 ≤ x8 then ((lockageref03_value.f k (bt x0 x8) x1).bind fun t302 => ((lockageref03_Add.f k bt300.1 t302).bind fun bt303 => (if bt300.2 = 0 then (if bt303.2 = 0 then (lockageref03_Parse.l1 k x0 x1 bt303.1 (wrap64 (x8 + 1))) else (some (0, 3))) else (some (0, 3))))) else (none))) else (some (x7, 0))
end
def lockageref03_Parse.f (k : Nat) (a0 : ByteArray) (a1 : Int) : Option (Int × Int) := if a0.toList = ([] : List UInt8) then (lockageref03_Parse.j0 k a0 a1 true) else (if a1 = 10 then (lockageref03_Parse.j0 k a0 a1 false) else (lockageref03_Parse.j0 k a0 a1 (a1 != 16)))
theorem lockageref03_Parse.mono_l : ∀ k, (∀ y0 y1 y2, LeO (lockageref03_Parse.j0 k y0 y1 y2) (lockageref03_Parse.j0 (k + 1) y0 y1 y2)) ∧ (∀ y0 y1 y2, LeO (lockageref03_Parse.l0 k y0 y1 y2) (lockageref03_Parse.l0 (k + 1) y0 y1 y2)) ∧ (∀ y0 y1 y2 y3, LeO (lockageref03_Parse.l1 k y0 y1 y2 y3) (lockageref03_Parse.l1 (k + 1) y0 y1 y2 y3))
 | 0 => ⟨fun _ _ _ r h => by simp [lockageref03_Parse.j0] at h, fun _ _ _ r h => by simp [lockageref03_Parse.l0] at h, fun _ _ _ _ r h => by simp [lockageref03_Parse.l1] at h⟩
 | k + 1 => by
  obtain ⟨ih0, ih1, ih2⟩ := lockageref03_Parse.mono_l k
  refine ⟨?_, ?_, ?_⟩
  ·intro y0 y1 y2
   unfold lockageref03_Parse.j0; have m0 := @lockageref03_Add.mono; have m1 := @lockageref03_Mul.mono; have m2 := @lockageref03_value.mono; exact zM
  ·intro y0 y1 y2
   unfold lockageref03_Parse.l0; have m0 := @lockageref03_Add.mono; have m1 := @lockageref03_Mul.mono; have m2 := @lockageref03_value.mono; exact zM
  ·intro y0 y1 y2 y3
   unfold lockageref03_Parse.l1; have m0 := @lockageref03_Add.mono; have m1 := @lockageref03_Mul.mono; have m2 := @lockageref03_value.mono; exact zM
theorem lockageref03_Parse.mono : ∀ a0 a1 k, LeO (lockageref03_Parse.f k a0 a1) (lockageref03_Parse.f (k + 1) a0 a1) := by
 intro a0 a1 k
 obtain ⟨ih0, ih1, ih2⟩ := lockageref03_Parse.mono_l k
 unfold lockageref03_Parse.f; have m0 := @lockageref03_Add.mono; have m1 := @lockageref03_Mul.mono; have m2 := @lockageref03_value.mono; exact zM
set_option maxHeartbeats 8000000 in
set_option maxRecDepth 100000 in
theorem lockageref03_Parse.calls (k : Nat) (a0 : ByteArray) (a1 : Int) (r1 : Int) (r2 : Int) (w : World) (h : lockageref03_Parse.f k a0 a1 = some (r1, r2)) :
  Calls Tryz.prog 80 #[.string a0, .int .i64 a1] w fun e w' => e = .returned (.tuple #[.int .i64 r1, .int .i64 r2]) ∧ Drawn0 w w' := by
 have H : (if a0.toList = ([] : List UInt8) then (lockageref03_Parse.j0 k a0 a1 true) else (if a1 = 10 then (lockageref03_Parse.j0 k a0 a1 false) else (lockageref03_Parse.j0 k a0 a1 (a1 != 16)))) = some (r1, r2) := h; clear h; have HC3 := aM H; clear H
 go_enter Tryz.func80, Tryz.ntmps80
 go_upto_region 1 with (fail)
 go_cut [22] (fun v22 wc => ∃ (kq : Nat) (x22_2 : Bool), v22 = .bool x22_2 ∧ Aside0 (lockageref03_Parse.j0 kq a0 a1 x22_2 = some (r1, r2)) ∧ Aside0 (kq ≤ k) ∧ Drawn0 w wc)
 case first =>
  have H := HC3.out; clear HC3; by_cases c4 : a0.toList = ([] : List UInt8)
  ·rw [if_pos c4] at H; obtain ⟨c4b0, c4b1⟩ := zd c4; clear c4
   (first | rw [c4b0] | (simp only [i64_w, i32_w]; rw [c4b0]) | skip)
   have H' := aM H; clear H
   go_wp2
   go_meet
   case rel => exact ⟨_, (true), zR, H', ⟨by first | omega | exact Nat.le_refl _⟩, zD⟩
  ·rw [if_neg c4] at H; obtain ⟨c4b0, c4b1⟩ := ze c4
   (first | rw [c4b0] | (simp only [i64_w, i32_w]; rw [c4b0]) | skip)
   by_cases c5 : a1 = 10
   ·rw [if_pos c5] at H; obtain ⟨c5b0, c5b1⟩ := zd c5; clear c5; have H' := aM H; clear H
    go_wp2
    go_meet
    case rel => exact ⟨_, (false), zR, H', ⟨by first | omega | exact Nat.le_refl _⟩, zD⟩
   ·rw [if_neg c5] at H; obtain ⟨c5b0, c5b1⟩ := ze c5; have H' := aM H; clear H
    go_wp2
    go_meet
    case rel => exact ⟨_, ((a1 != 16)), zR, H', ⟨by first | omega | exact Nat.le_refl _⟩, zD⟩
 case rest =>
  clear HC3; (try clear p2); (try clear c4); (try clear c4b0); (try clear c4b1); (try clear c5); (try clear c5b0); (try clear c5b1); obtain ⟨kq, x22_2, rfl, HA, HJ2, ⟨mc2, rfl⟩⟩ := hcut; cases kq with
  | zero => exact absurd HA.out (by simp [lockageref03_Parse.j0])
  | succ kj2 =>
   have H := HA.out; clear HA; simp only [lockageref03_Parse.j0] at H; by_cases c6 : x22_2 = true
   ·subst c6; rw [if_pos rfl] at H; simp only [Option.some.injEq, Prod.mk.injEq] at H; obtain ⟨rfl, rfl⟩ := H
    go_wp2
    go_ret2
    exact ⟨zR, zD⟩
   ·replace c6 := Bool.eq_false_iff.mpr c6; subst c6; rw [if_neg (show ¬ (false = true) by decide)] at H; have H' := aM H; clear H
    go_wp2
    go_loopg [6] kj2 (fun kq v6 w' => ∃ (x6_2 : Int), v6 = .int .i64 x6_2 ∧ Aside0 (lockageref03_Parse.l0 kq a0 a1 x6_2 = some (r1, r2)) ∧ Aside0 (kq ≤ kj2) ∧ Drawn0 w w')
    case atStart => exact ⟨(0), zR, H', ⟨Nat.le_refl _⟩, zD⟩
    case round =>
     clear H'; (try clear c2); (try clear p2); (try clear c4); (try clear c4b0); (try clear c4b1); (try clear c5); (try clear c5b0); (try clear c5b1); (try clear c6); (try clear p2); obtain ⟨x6_2, rfl, HA, HK2, ⟨m2, rfl⟩⟩ := hrel; cases gk with
     | zero => exact absurd HA.out (by simp [lockageref03_Parse.l0])
     | succ k2 =>
      have H := HA.out; clear HA; simp only [lockageref03_Parse.l0] at H; by_cases c7 : x6_2 < (a0.size : Int)
      ·rw [if_pos c7] at H; have c7b0 := decide_eq_true c7; clear c7; by_cases c8 : 0 ≤ x6_2
       ·rw [if_pos c8] at H; have c8b0 := decide_eq_true c8; clear c8; replace H := Option.bind_eq_some_iff.mp H; obtain ⟨t299, A100, H⟩ := H; replace H : (if t299 < 0 then (some (0, 1)) else (lockageref03_Parse.l0 k2 a0 a1 (wrap64 (x6_2 + 1)))) = some (r1, r2) := H; have A10 := aM A100; clear A100; by_cases c11 : t299 < 0
        ·rw [if_pos c11] at H; have c11b0 := decide_eq_true c11; clear c11; simp only [Option.some.injEq, Prod.mk.injEq] at H; obtain ⟨rfl, rfl⟩ := H; have p9 : 0 ≤ (x6_2 : Int) := of_decide_eq_true zA; have q9 : x6_2 < (a0.size : Int) := of_decide_eq_true zA; have hx9 := bt_at a0 x6_2; replace p9 := eq_true p9; replace q9 := eq_true q9
         go_wp2_with (first | ((with_reducible refine gate_callee (f := 101) rfl ?_); refine goesL_ (some 33) rfl rfl Tryz.func101 (by kernel_rfl) rfl #[.int .u8 (bt a0 x6_2), .int .i64 a1] rfl zL ?_; (with_reducible refine (lockageref03_value.calls k2 (bt a0 x6_2) a1 t299 _ A10.out).mono ?_); rintro e w' ⟨rfl, ⟨nd, rfl⟩⟩; refine ⟨_, rfl, ?_⟩))
         go_ret2
         exact ⟨zR, zD⟩
        ·rw [if_neg c11] at H; have c11b0 := decide_eq_false c11; clear c11; have H' := aM H; clear H; have p9 : 0 ≤ (x6_2 : Int) := of_decide_eq_true zA; have q9 : x6_2 < (a0.size : Int) := of_decide_eq_true zA; have hx9 := bt_at a0 x6_2; replace p9 := eq_true p9; replace q9 := eq_true q9
         go_wp2_with (first | ((with_reducible refine gate_callee (f := 101) rfl ?_); refine goesL_ (some 33) rfl rfl Tryz.func101 (by kernel_rfl) rfl #[.int .u8 (bt a0 x6_2), .int .i64 a1] rfl zL ?_; (with_reducible refine (lockageref03_value.calls k2 (bt a0 x6_2) a1 t299 _ A10.out).mono ?_); rintro e w' ⟨rfl, ⟨nd, rfl⟩⟩; refine ⟨_, rfl, ?_⟩))
         go_roundg k2
         case measure => have := HJ2.out; have := HK2.out; omega
         case rel => exact ⟨(wrap64 (x6_2 + 1)), zR, H', ⟨by have := HJ2.out; have := HK2.out; omega⟩, zD⟩
       ·exact zf c8 H
      ·rw [if_neg c7] at H; have c7b0 := decide_eq_false c7; clear c7; have H' := aM H; clear H
       go_wp2
       go_loopg [7, 8] k2 (fun kq v7 v8 w' => ∃ (x7_3 : Int) (x8_3 : Int), v7 = .int .i64 x7_3 ∧ v8 = .int .i64 x8_3 ∧ Aside0 (lockageref03_Parse.l1 kq a0 a1 x7_3 x8_3 = some (r1, r2)) ∧ Aside0 (kq ≤ k2) ∧ Drawn0 w w')
       case atStart => exact ⟨(0), (0), zR, zR, H', ⟨Nat.le_refl _⟩, zD⟩
       case round =>
        clear H'; (try clear c1); (try clear c2); (try clear p2); (try clear c4); (try clear c4b0); (try clear c4b1); (try clear c5); (try clear c5b0); (try clear c5b1); (try clear c6); (try clear p6); (try clear c7); (try clear c7b0); (try clear c8); (try clear c8b0); (try clear p9); (try clear q9); (try clear hx9); (try clear c10); (try clear c11); (try clear c11b0); (try clear p2); (try clear p9); (try clear q9); obtain ⟨x7_3, x8_3, rfl, rfl, HA, HK3, ⟨m3, rfl⟩⟩ := hrel; cases gk with
        | zero => exact absurd HA.out (by simp [lockageref03_Parse.l1])
        | succ k3 =>
         have H := HA.out; clear HA; simp only [lockageref03_Parse.l1] at H; by_cases c12 : x8_3 < (a0.size : Int)
         ·rw [if_pos c12] at H; have c12b0 := decide_eq_true c12; clear c12; obtain ⟨⟨t300, t301⟩, A13, H⟩ := zc H; (try dsimp only at H); by_cases c14 : 0 ≤ x8_3
          ·rw [if_pos c14] at H; have c14b0 := decide_eq_true c14; clear c14; obtain ⟨t302, A16, H⟩ := zc H; (try dsimp only at H); replace H := Option.bind_eq_some_iff.mp H; obtain ⟨⟨t303, t304⟩, A170, H⟩ := H; replace H : (if t301 = 0 then (if t304 = 0 then (lockageref03_Parse.l1 k3 a0 a1 t303 (wrap64 (x8_3 + 1))) else (some (0, 3))) else (some (0, 3))) = some (r1, r2) := H; have A17 := aM A170; clear A170; by_cases c18 : t301 = 0
           ·rw [if_pos c18] at H; obtain ⟨c18b0, c18b1⟩ := zd c18; clear c18; by_cases c19 : t304 = 0
            ·rw [if_pos c19] at H; obtain ⟨c19b0, c19b1⟩ := zd c19; clear c19; have H' := aM H; clear H
             go_wp2_with (first | ((with_reducible refine gate_callee (f := 102) rfl ?_); refine goesL_ (some 44) rfl rfl Tryz.func102 (by kernel_rfl) rfl #[.int .i64 x7_3, .int .i64 a1] rfl zL ?_; (with_reducible refine (lockageref03_Mul.calls k3 x7_3 a1 t300 t301 _ A13.out).mono ?_); rintro e w' ⟨rfl, ⟨nd, rfl⟩⟩; refine ⟨_, rfl, ?_⟩; have p15 : 0 ≤ (x8_3 : Int) := of_decide_eq_true zA; have q15 : x8_3 < (a0.size : Int) := of_decide_eq_true zA; have hx15 := bt_at a0 x8_3; replace p15 := eq_true p15; replace q15 := eq_true q15) | ((with_reducible refine gate_callee (f := 101) rfl ?_); refine goesL_ (some 53) rfl rfl Tryz.func101 (by kernel_rfl) rfl #[.int .u8 (bt a0 x8_3), .int .i64 a1] rfl zL ?_; (with_reducible refine (lockageref03_value.calls k3 (bt a0 x8_3) a1 t302 _ A16.out).mono ?_); rintro e w' ⟨rfl, ⟨nd, rfl⟩⟩; refine ⟨_, rfl, ?_⟩) | ((with_reducible refine gate_callee (f := 103) rfl ?_); refine goesL_ (some 54) rfl rfl Tryz.func103 (by kernel_rfl) rfl #[.int .i64 t300, .int .i64 t302] rfl zL ?_; (with_reducible refine (lockageref03_Add.calls k3 t300 t302 t303 t304 _ A17.out).mono ?_); rintro e w' ⟨rfl, ⟨nd, rfl⟩⟩; refine ⟨_, rfl, ?_⟩))
             go_roundg k3
             case measure => have := HJ2.out; have := HK2.out; have := HK3.out; omega
             case rel => exact ⟨(t303), (wrap64 (x8_3 + 1)), zR, zR, H', ⟨by have := HJ2.out; have := HK2.out; have := HK3.out; omega⟩, zD⟩
            ·rw [if_neg c19] at H; obtain ⟨c19b0, c19b1⟩ := ze c19; simp only [Option.some.injEq, Prod.mk.injEq] at H; obtain ⟨rfl, rfl⟩ := H
             go_wp2_with (first | ((with_reducible refine gate_callee (f := 102) rfl ?_); refine goesL_ (some 44) rfl rfl Tryz.func102 (by kernel_rfl) rfl #[.int .i64 x7_3, .int .i64 a1] rfl zL ?_; (with_reducible refine (lockageref03_Mul.calls k3 x7_3 a1 t300 t301 _ A13.out).mono ?_); rintro e w' ⟨rfl, ⟨nd, rfl⟩⟩; refine ⟨_, rfl, ?_⟩; have p15 : 0 ≤ (x8_3 : Int) := of_decide_eq_true zA; have q15 : x8_3 < (a0.size : Int) := of_decide_eq_true zA; have hx15 := bt_at a0 x8_3; replace p15 := eq_true p15; replace q15 := eq_true q15) | ((with_reducible refine gate_callee (f := 101) rfl ?_); refine goesL_ (some 53) rfl rfl Tryz.func101 (by kernel_rfl) rfl #[.int .u8 (bt a0 x8_3), .int .i64 a1] rfl zL ?_; (with_reducible refine (lockageref03_value.calls k3 (bt a0 x8_3) a1 t302 _ A16.out).mono ?_); rintro e w' ⟨rfl, ⟨nd, rfl⟩⟩; refine ⟨_, rfl, ?_⟩) | ((with_reducible refine gate_callee (f := 103) rfl ?_); refine goesL_ (some 54) rfl rfl Tryz.func103 (by kernel_rfl) rfl #[.int .i64 t300, .int .i64 t302] rfl zL ?_; (with_reducible refine (lockageref03_Add.calls k3 t300 t302 t303 t304 _ A17.out).mono ?_); rintro e w' ⟨rfl, ⟨nd, rfl⟩⟩; refine ⟨_, rfl, ?_⟩))
             go_ret2
             exact ⟨zR, zD⟩
           ·rw [if_neg c18] at H; obtain ⟨c18b0, c18b1⟩ := ze c18; simp only [Option.some.injEq, Prod.mk.injEq] at H; obtain ⟨rfl, rfl⟩ := H
            go_wp2_with (first | ((with_reducible refine gate_callee (f := 102) rfl ?_); refine goesL_ (some 44) rfl rfl Tryz.func102 (by kernel_rfl) rfl #[.int .i64 x7_3, .int .i64 a1] rfl zL ?_; (with_reducible refine (lockageref03_Mul.calls k3 x7_3 a1 t300 t301 _ A13.out).mono ?_); rintro e w' ⟨rfl, ⟨nd, rfl⟩⟩; refine ⟨_, rfl, ?_⟩; have p15 : 0 ≤ (x8_3 : Int) := of_decide_eq_true zA; have q15 : x8_3 < (a0.size : Int) := of_decide_eq_true zA; have hx15 := bt_at a0 x8_3; replace p15 := eq_true p15; replace q15 := eq_true q15) | ((with_reducible refine gate_callee (f := 101) rfl ?_); refine goesL_ (some 53) rfl rfl Tryz.func101 (by kernel_rfl) rfl #[.int .u8 (bt a0 x8_3), .int .i64 a1] rfl zL ?_; (with_reducible refine (lockageref03_value.calls k3 (bt a0 x8_3) a1 t302 _ A16.out).mono ?_); rintro e w' ⟨rfl, ⟨nd, rfl⟩⟩; refine ⟨_, rfl, ?_⟩) | ((with_reducible refine gate_callee (f := 103) rfl ?_); refine goesL_ (some 54) rfl rfl Tryz.func103 (by kernel_rfl) rfl #[.int .i64 t300, .int .i64 t302] rfl zL ?_; (with_reducible refine (lockageref03_Add.calls k3 t300 t302 t303 t304 _ A17.out).mono ?_); rintro e w' ⟨rfl, ⟨nd, rfl⟩⟩; refine ⟨_, rfl, ?_⟩))
            go_ret2
            exact ⟨zR, zD⟩
          ·exact zf c14 H
         ·rw [if_neg c12] at H; have c12b0 := decide_eq_false c12; clear c12; simp only [Option.some.injEq, Prod.mk.injEq] at H; obtain ⟨rfl, rfl⟩ := H
          go_wp2
          go_ret2
          exact ⟨zR, zD⟩

end Go.Proofs.YthmallhjbhphgaaGreatDoor.P
