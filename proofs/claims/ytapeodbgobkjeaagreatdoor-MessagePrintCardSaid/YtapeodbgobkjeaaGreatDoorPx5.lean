/- Printed by a program of the session out of the translation: plain Lean functions, each with the contract that the Go function computes it. -/
import Derived.Test.YtapeodbgobkjeaaGreatDoorHZM
import Derived.Test.YtapeodbgobkjeaaGreatDoorPx0
import Derived.Test.YtapeodbgobkjeaaGreatDoorPx4
import Derived.Test.YtapeodbgobkjeaaGreatDoorHZB
namespace Go.Proofs.YtapeodbgobkjeaaGreatDoor.P
open Go.RowKit Go.Proofs.YtapeodbgobkjeaaGreatDoorW.PrintWords Go.Proofs.YtapeodbgobkjeaaGreatDoorW.PrintLast Go.Proofs.YtapeodbgobkjeaaGreatDoorW.PrintMore
attribute [local go_sem] max2_int min2_int max_two min_two max_three min_three max_four min_four   -- for this text's walks alone
set_option linter.unusedVariables false
set_option linter.unusedSimpArgs false

mutual
def num_Parse.j0 : Nat → ByteArray → Int → Int → Int → Bool → Option (Int × Int)
 | 0, _, _, _, _, _ => none
 | k + 1, x0, x1, x4, x5, x17 => if x17 = true then (some (0, 1)) else (num_Parse.l0 k x0 x1 x4 x5 (x0.size : Int) 0)
def num_Parse.l0 : Nat → ByteArray → Int → Int → Int → Int → Int → Option (Int × Int)
 | 0, _, _, _, _, _, _ => none
 | k + 1, x0, x1, x4, x5, x19, x20 => if x20 < x19 then (if 0 ≤ x20 then (if x20 < (x0.size : Int) then ((num_digit.f k (bt x0 x20) x1).bind fun t102 => (if t102 = (-1) then (some (0, 1)) else (if x5 = 0 then (num_Parse.j2 k x0 x1 (wrap64 ((wrap64 (x4 * x1)) + t102)) x5 x19 x20) else (num_Parse.j2 k x0 x1 x4 x5 x19 x20)))) else (none)) else (none)) else (some (x4, x5))
def num_Parse.j2 : Nat → ByteArray → Int → Int → Int → Int → Int → Option (Int × Int)
 | 0, _, _, _, _, _, _ => none
 | k + 1, x0, x1, x4, x5, x19, x20 => (num_Fits.f x4).bind fun t103 => (if t103 = true then (num_Parse.l0 k x0 x1 x4 x5 x19 (wrap64 (x20 + 1))) else (num_Parse.l0 k x0 x1 0 3 x19 (wrap64 (x20 + 1))))
end
def num_Parse.f (k : Nat) (a0 : ByteArray) (a1 : Int) : Option (Int × Int) := if a0.toList = ([] : List UInt8) then (num_Parse.j0 k a0 a1 0 0 true) else (if a1 = 10 then (num_Parse.j0 k a0 a1 0 0 false) else (num_Parse.j0 k a0 a1 0 0 (a1 != 16)))
theorem num_Parse.mono_l : ∀ k, (∀ y0 y1 y2 y3 y4, LeO (num_Parse.j0 k y0 y1 y2 y3 y4) (num_Parse.j0 (k + 1) y0 y1 y2 y3 y4)) ∧ (∀ y0 y1 y2 y3 y4 y5, LeO (num_Parse.l0 k y0 y1 y2 y3 y4 y5) (num_Parse.l0 (k + 1) y0 y1 y2 y3 y4 y5)) ∧ (∀ y0 y1 y2 y3 y4 y5, LeO (num_Parse.j2 k y0 y1 y2 y3 y4 y5) (num_Parse.j2 (k + 1) y0 y1 y2 y3 y4 y5))
 | 0 => ⟨fun _ _ _ _ _ r h => by simp [num_Parse.j0] at h, fun _ _ _ _ _ _ r h => by simp [num_Parse.l0] at h, fun _ _ _ _ _ _ r h => by simp [num_Parse.j2] at h⟩
 | k + 1 => by
  obtain ⟨ih0, ih1, ih2⟩ := num_Parse.mono_l k
  refine ⟨?_, ?_, ?_⟩
  ·intro y0 y1 y2 y3 y4
   unfold num_Parse.j0; have m0 := @num_digit.mono; exact zM
  ·intro y0 y1 y2 y3 y4 y5
   unfold num_Parse.l0; have m0 := @num_digit.mono; exact zM
  ·intro y0 y1 y2 y3 y4 y5
   unfold num_Parse.j2; have m0 := @num_digit.mono; exact zM
theorem num_Parse.mono : ∀ a0 a1 k, LeO (num_Parse.f k a0 a1) (num_Parse.f (k + 1) a0 a1) := by
 intro a0 a1 k
 obtain ⟨ih0, ih1, ih2⟩ := num_Parse.mono_l k
 unfold num_Parse.f; have m0 := @num_digit.mono; exact zM
set_option maxHeartbeats 8000000 in
set_option maxRecDepth 100000 in
theorem num_Parse.calls (k : Nat) (a0 : ByteArray) (a1 : Int) (r1 : Int) (r2 : Int) (w : World) (h : num_Parse.f k a0 a1 = some (r1, r2)) :
  Calls Tryz.prog 159 #[.string a0, .int .i64 a1] w fun e w' => e = .returned (.tuple #[.int .i64 r1, .int .i64 r2]) ∧ Drawn0 w w' := by
 have H : (if a0.toList = ([] : List UInt8) then (num_Parse.j0 k a0 a1 0 0 true) else (if a1 = 10 then (num_Parse.j0 k a0 a1 0 0 false) else (num_Parse.j0 k a0 a1 0 0 (a1 != 16)))) = some (r1, r2) := h; clear h; have HC3 := aM H; clear H
 go_enter Tryz.func159, Tryz.ntmps159
 go_upto_region 1 with (fail)
 go_cut [17] (fun v17 wc => ∃ (kq : Nat) (x17_2 : Bool), v17 = .bool x17_2 ∧ Aside0 (num_Parse.j0 kq a0 a1 0 0 x17_2 = some (r1, r2)) ∧ Aside0 (kq ≤ k) ∧ Drawn0 w wc)
 case first =>
  have H := HC3.out; clear HC3; by_cases c4 : a0.toList = ([] : List UInt8)
  ·rw [if_pos c4] at H; obtain ⟨c4b0, c4b1⟩ := zd c4; clear c4
   (first | rw [c4b0] | (simp only [i64_w, i32_w]; rw [c4b0]) | skip)
   have H' := aM H; clear H
   go_wp2
   go_meet
   case rel => exact ⟨_, (true), zR, H', ⟨by first | omega | exact Nat.le_refl _⟩, zD⟩
  ·rw [if_neg c4] at H; obtain ⟨c4b0, c4b1⟩ := ze c4
   (first | rw [c4b0] | (simp only [i64_w, i32_w]; rw [c4b0]) | skip)
   by_cases c5 : a1 = 10
   ·rw [if_pos c5] at H; obtain ⟨c5b0, c5b1⟩ := zd c5; clear c5; have H' := aM H; clear H
    go_wp2
    go_meet
    case rel => exact ⟨_, (false), zR, H', ⟨by first | omega | exact Nat.le_refl _⟩, zD⟩
   ·rw [if_neg c5] at H; obtain ⟨c5b0, c5b1⟩ := ze c5; have H' := aM H; clear H
    go_wp2
    go_meet
    case rel => exact ⟨_, ((a1 != 16)), zR, H', ⟨by first | omega | exact Nat.le_refl _⟩, zD⟩
 case rest =>
  clear HC3; (try clear c1); (try clear p2); (try clear c4); (try clear c4b0); (try clear c4b1); (try clear c5); (try clear c5b0); (try clear c5b1); obtain ⟨kq, x17_2, rfl, HA, HJ2, ⟨mc2, rfl⟩⟩ := hcut; cases kq with
  | zero => exact absurd HA.out (by simp [num_Parse.j0])
  | succ kj2 =>
   have H := HA.out; clear HA; simp only [num_Parse.j0] at H; by_cases c6 : x17_2 = true
   ·subst c6; rw [if_pos rfl] at H; simp only [Option.some.injEq, Prod.mk.injEq] at H; obtain ⟨rfl, rfl⟩ := H
    go_wp2
    go_ret2
    exact ⟨zR, zD⟩
   ·replace c6 := Bool.eq_false_iff.mpr c6; subst c6; rw [if_neg (show ¬ (false = true) by decide)] at H; have H' := aM H; clear H
    go_wp2
    go_loopg [4, 5, 20] kj2 (fun kq v4 v5 v20 w' => ∃ (x4_2 : Int) (x5_2 : Int) (x20_2 : Int), v4 = .int .i64 x4_2 ∧ v5 = .int .i64 x5_2 ∧ v20 = .int .i64 x20_2 ∧ Aside0 (num_Parse.l0 kq a0 a1 x4_2 x5_2 (a0.size : Int) x20_2 = some (r1, r2)) ∧ Aside0 (kq ≤ kj2) ∧ Drawn0 w w')
    case atStart => exact ⟨(0), (0), (0), zR, zR, zR, H', ⟨Nat.le_refl _⟩, zD⟩
    case round =>
     clear H'; (try clear c1); (try clear c2); (try clear p2); (try clear c4); (try clear c4b0); (try clear c4b1); (try clear c5); (try clear c5b0); (try clear c5b1); (try clear c6); (try clear p2); obtain ⟨x4_2, x5_2, x20_2, rfl, rfl, rfl, HA, HK2, ⟨m2, rfl⟩⟩ := hrel; cases gk with
     | zero => exact absurd HA.out (by simp [num_Parse.l0])
     | succ k2 =>
      have H := HA.out; clear HA; simp only [num_Parse.l0] at H; by_cases c7 : x20_2 < (a0.size : Int)
      ·rw [if_pos c7] at H; have c7b0 := decide_eq_true c7; clear c7; by_cases c8 : 0 ≤ x20_2
       ·rw [if_pos c8] at H; have c8b0 := decide_eq_true c8; clear c8; by_cases c9 : x20_2 < (a0.size : Int)
        ·rw [if_pos c9] at H; have c9b0 := decide_eq_true c9; clear c9; obtain ⟨t102, A11, H⟩ := zc H; (try dsimp only at H); by_cases c12 : t102 = (-1)
         ·rw [if_pos c12] at H; obtain ⟨c12b0, c12b1⟩ := zd c12; clear c12; simp only [Option.some.injEq, Prod.mk.injEq] at H; obtain ⟨rfl, rfl⟩ := H; have p10 : 0 ≤ (x20_2 : Int) := of_decide_eq_true zA; have q10 : x20_2 < (a0.size : Int) := of_decide_eq_true zA; have hx10 := bt_at a0 x20_2; replace p10 := eq_true p10; replace q10 := eq_true q10
          go_wp2_with (first | ((with_reducible refine gate_callee (f := 175) rfl ?_); refine goesL_ (some 27) rfl rfl Tryz.func175 (by kernel_rfl) rfl #[.int .u8 (bt a0 x20_2), .int .i64 a1] rfl zL ?_; (with_reducible refine (num_digit.calls k2 (bt a0 x20_2) a1 t102 _ A11.out).mono ?_); rintro e w' ⟨rfl, ⟨nd, rfl⟩⟩; refine ⟨_, rfl, ?_⟩))
          go_ret2
          exact ⟨zR, zD⟩
         ·rw [if_neg c12] at H; obtain ⟨c12b0, c12b1⟩ := ze c12; have HC13 := aM H; clear H; have p10 : 0 ≤ (x20_2 : Int) := of_decide_eq_true zA; have q10 : x20_2 < (a0.size : Int) := of_decide_eq_true zA; have hx10 := bt_at a0 x20_2; replace p10 := eq_true p10; replace q10 := eq_true q10
          go_upto_if 31 with (first | ((with_reducible refine gate_callee (f := 175) rfl ?_); refine goesL_ (some 27) rfl rfl Tryz.func175 (by kernel_rfl) rfl #[.int .u8 (bt a0 x20_2), .int .i64 a1] rfl zL ?_; (with_reducible refine (num_digit.calls k2 (bt a0 x20_2) a1 t102 _ A11.out).mono ?_); rintro e w' ⟨rfl, ⟨nd, rfl⟩⟩; refine ⟨_, rfl, ?_⟩))
          (try simp only [Act.put, List.setIfInBounds_toArray, List.set_cons_zero, List.set_cons_succ])
          go_cut [4] (fun v4 wc => ∃ (kq : Nat) (x4_12 : Int), v4 = .int .i64 x4_12 ∧ Aside0 (num_Parse.j2 kq a0 a1 x4_12 x5_2 (a0.size : Int) x20_2 = some (r1, r2)) ∧ Aside0 (kq ≤ k2) ∧ Drawn0 w wc)
          case first =>
           have H := HC13.out; clear HC13; by_cases c14 : x5_2 = 0
           ·rw [if_pos c14] at H; obtain ⟨c14b0, c14b1⟩ := zd c14; clear c14
            (first | rw [c14b0] | (simp only [i64_w, i32_w]; rw [c14b0]) | skip)
            have H' := aM H; clear H
            go_wp2
            go_meet
            case rel => exact ⟨_, (wrap64 ((wrap64 (x4_2 * a1)) + t102)), zR, H', ⟨by have := HJ2.out; have := HK2.out; first | omega | exact Nat.le_refl _⟩, zD⟩
           ·rw [if_neg c14] at H; obtain ⟨c14b0, c14b1⟩ := ze c14
            (first | rw [c14b0] | (simp only [i64_w, i32_w]; rw [c14b0]) | skip)
            have H' := aM H; clear H
            go_wp2
            go_meet
            case rel => exact ⟨_, (x4_2), zR, H', ⟨by have := HJ2.out; have := HK2.out; first | omega | exact Nat.le_refl _⟩, zD⟩
          case rest =>
           clear HC13; (try clear c1); (try clear p1); (try clear q1); (try clear hx1); (try clear c2); (try clear p2); (try clear c4); (try clear c4b0); (try clear c4b1); (try clear c5); (try clear c5b0); (try clear c5b1); (try clear c6); (try clear p6); (try clear c7); (try clear c7b0); (try clear c8); (try clear c8b0); (try clear c9); (try clear c9b0); (try clear p10); (try clear q10); (try clear hx10); (try clear c12); (try clear c12b0); (try clear c12b1); (try clear c14); (try clear c14b0); (try clear c14b1); (try clear p10); (try clear p2); (try clear q10); obtain ⟨kq, x4_12, rfl, HA, HJ12, ⟨mc12, rfl⟩⟩ := hcut; cases kq with
           | zero => exact absurd HA.out (by simp [num_Parse.j2])
           | succ kj12 =>
            have H := HA.out; clear HA; simp only [num_Parse.j2] at H; replace H := Option.bind_eq_some_iff.mp H; obtain ⟨t103, A150, H⟩ := H; replace H : (if t103 = true then (num_Parse.l0 kj12 a0 a1 x4_12 x5_2 (a0.size : Int) (wrap64 (x20_2 + 1))) else (num_Parse.l0 kj12 a0 a1 0 3 (a0.size : Int) (wrap64 (x20_2 + 1)))) = some (r1, r2) := H; have A15 := aM A150; clear A150; by_cases c16 : t103 = true
            ·subst c16; rw [if_pos rfl] at H; have H' := aM H; clear H
             go_wp2_with (first | ((with_reducible refine gate_callee (f := 56) rfl ?_); refine goesL_ (some 38) rfl rfl Tryz.func56 (by kernel_rfl) rfl #[.int .i64 x4_12] rfl zL ?_; (with_reducible refine (num_Fits.calls x4_12 true _ A15.out).mono ?_); rintro e w' ⟨rfl, ⟨nd, rfl⟩⟩; refine ⟨_, rfl, ?_⟩))
             go_roundg kj12
             case measure => have := HJ2.out; have := HK2.out; have := HJ12.out; omega
             case rel => exact ⟨(x4_12), (x5_2), (wrap64 (x20_2 + 1)), zR, zR, zR, H', ⟨by have := HJ2.out; have := HK2.out; have := HJ12.out; omega⟩, zD⟩
            ·replace c16 := Bool.eq_false_iff.mpr c16; subst c16; rw [if_neg (show ¬ (false = true) by decide)] at H; have H' := aM H; clear H
             go_wp2_with (first | ((with_reducible refine gate_callee (f := 56) rfl ?_); refine goesL_ (some 38) rfl rfl Tryz.func56 (by kernel_rfl) rfl #[.int .i64 x4_12] rfl zL ?_; (with_reducible refine (num_Fits.calls x4_12 false _ A15.out).mono ?_); rintro e w' ⟨rfl, ⟨nd, rfl⟩⟩; refine ⟨_, rfl, ?_⟩))
             go_roundg kj12
             case measure => have := HJ2.out; have := HK2.out; have := HJ12.out; omega
             case rel => exact ⟨(0), (3), (wrap64 (x20_2 + 1)), zR, zR, zR, H', ⟨by have := HJ2.out; have := HK2.out; have := HJ12.out; omega⟩, zD⟩
        ·exact zf c9 H
       ·exact zf c8 H
      ·rw [if_neg c7] at H; have c7b0 := decide_eq_false c7; clear c7; simp only [Option.some.injEq, Prod.mk.injEq] at H; obtain ⟨rfl, rfl⟩ := H
       go_wp2
       go_ret2
       exact ⟨zR, zD⟩

def head_digits.f (k : Nat) (a0 : ByteArray) : Option (Bool) := (num_Parse.f k a0 10).bind fun bt104 => (some (bt104.2 != 1))
theorem head_digits.mono : ∀ a0 k, LeO (head_digits.f k a0) (head_digits.f (k + 1) a0) := by
 intro a0 k
 unfold head_digits.f; have m0 := @num_Parse.mono; exact zM
set_option maxHeartbeats 8000000 in
set_option maxRecDepth 100000 in
theorem head_digits.calls (k : Nat) (a0 : ByteArray) (r : Bool) (w : World) (h : head_digits.f k a0 = some r) :
  Calls Tryz.prog 158 #[.string a0] w fun e w' => e = .returned (.bool r) ∧ Drawn0 w w' := by
 have H : ((num_Parse.f k a0 10).bind fun bt104 => (some (bt104.2 != 1))) = some r := h; clear h; replace H := Option.bind_eq_some_iff.mp H; obtain ⟨⟨t104, t105⟩, A20, H⟩ := H; replace H : (some (t105 != 1)) = some r := H; have A2 := aM A20; clear A20; obtain rfl := Option.some.inj H
 go_enter Tryz.func158, Tryz.ntmps158
 go_wp2_with (first | ((with_reducible refine gate_callee (f := 159) rfl ?_); refine goesL_ (some 7) rfl rfl Tryz.func159 (by kernel_rfl) rfl #[.string a0, .int .i64 10] rfl zL ?_; (with_reducible refine (num_Parse.calls k a0 10 t104 t105 _ A2.out).mono ?_); rintro e w' ⟨rfl, ⟨nd, rfl⟩⟩; refine ⟨_, rfl, ?_⟩))
 go_ret
 exact ⟨zR, zD⟩

def head_version.j0 : Nat → ByteArray → Bool → Option (Int × Int)
 | 0, _, _ => none
 | k + 1, x4, x11 => if x11 = true then (some (0, 20)) else (if x4.toList = ([49, 46, 48] : List UInt8) then (if 2 < (x4.size : Int) then (some (((bt x4 2) - 48) % 256, 0)) else (none)) else (if x4.toList = ([49, 46, 49] : List UInt8) then (if 2 < (x4.size : Int) then (some (((bt x4 2) - 48) % 256, 0)) else (none)) else (some (0, 24))))
def head_version.f (k : Nat) (a0 : ByteArray) : Option (Int × Int) := (strings_CutPrefix.f a0 (⟨#[72, 84, 84, 80, 47]⟩ : ByteArray)).bind fun bt106 => (if bt106.2 = true then (if (bt106.1.size : Int) = 3 then (if 0 ≤ 1 then (if 1 ≤ (bt106.1.size : Int) then ((head_digits.f k (bt106.1.extract 0 1)).bind fun t108 => (if t108 = true then (if 1 < (bt106.1.size : Int) then (if (bt bt106.1 1) = 46 then (if 2 ≤ (bt106.1.size : Int) then ((head_digits.f k (bt106.1.extract 2 bt106.1.size)).bind fun t109 => (head_version.j0 k bt106.1 (!t109))) else (none)) else (head_version.j0 k bt106.1 ((bt bt106.1 1) != 46))) else (none)) else (head_version.j0 k bt106.1 (!t108)))) else (none)) else (none)) else (head_version.j0 k bt106.1 ((bt106.1.size : Int) != 3))) else (head_version.j0 k bt106.1 (!bt106.2)))
theorem head_version.mono_l : ∀ k, (∀ y0 y1, LeO (head_version.j0 k y0 y1) (head_version.j0 (k + 1) y0 y1))
 | 0 => fun _ _ r h => by simp [head_version.j0] at h
 | k + 1 => by
  have ih0 := head_version.mono_l k
  ·intro y0 y1
   unfold head_version.j0; have m0 := @head_digits.mono; exact zM
theorem head_version.mono : ∀ a0 k, LeO (head_version.f k a0) (head_version.f (k + 1) a0) := by
 intro a0 k
 have ih0 := head_version.mono_l k
 unfold head_version.f; have m0 := @head_digits.mono; exact zM
set_option maxHeartbeats 8000000 in
set_option maxRecDepth 100000 in
theorem head_version.calls (k : Nat) (a0 : ByteArray) (r1 : Int) (r2 : Int) (w : World) (h : head_version.f k a0 = some (r1, r2)) :
  Calls Tryz.prog 157 #[.string a0] w fun e w' => e = .returned (.tuple #[.int .i64 r1, .int .i64 r2]) ∧ Drawn0 w w' := by
 have H := h; unfold head_version.f at H; clear h; obtain ⟨⟨t106, t107⟩, A2, H⟩ := zc H; (try dsimp only at H); have HC3 := aM H; clear H
 go_enter Tryz.func157, Tryz.ntmps157
 go_upto_if 11 with (first | ((with_reducible refine gate_callee (f := 174) rfl ?_); refine goesL_ (some 8) rfl rfl Tryz.func174 (by kernel_rfl) rfl #[.string a0, .string (⟨#[72, 84, 84, 80, 47]⟩ : ByteArray)] rfl zL ?_; (with_reducible refine (strings_CutPrefix.calls a0 (⟨#[72, 84, 84, 80, 47]⟩ : ByteArray) t106 t107 _ A2.out).mono ?_); rintro e w' ⟨rfl, ⟨nd, rfl⟩⟩; refine ⟨_, rfl, ?_⟩))
 (try simp only [Act.put, List.setIfInBounds_toArray, List.set_cons_zero, List.set_cons_succ])
 go_cut [11] (fun v11 wc => ∃ (kq : Nat) (x11_2 : Bool), v11 = .bool x11_2 ∧ Aside0 (head_version.j0 kq t106 x11_2 = some (r1, r2)) ∧ Aside0 (kq ≤ k) ∧ Drawn0 w wc)
 case first =>
  have H := HC3.out; clear HC3; by_cases c4 : t107 = true
  ·subst c4; rw [if_pos rfl] at H; by_cases c5 : (t106.size : Int) = 3
   ·rw [if_pos c5] at H; obtain ⟨c5b0, c5b1⟩ := zd c5; clear c5
    (first | rw [c5b0] | (simp only [i64_w, i32_w]; rw [c5b0]) | skip)
    by_cases c6 : 0 ≤ 1
    ·rw [if_pos c6] at H; have c6b0 := eq_true c6; have c6b1 := decide_eq_true c6; clear c6; by_cases c7 : 1 ≤ (t106.size : Int)
     ·rw [if_pos c7] at H; have c7b0 := eq_true c7; have c7b1 := decide_eq_true c7; clear c7; obtain ⟨t108, A8, H⟩ := zc H; (try dsimp only at H); by_cases c9 : t108 = true
      ·subst c9; rw [if_pos rfl] at H; by_cases c10 : 1 < (t106.size : Int)
       ·rw [if_pos c10] at H; have c10b0 := decide_eq_true c10; have c10b1 : decide (1 < t106.size) = true := decide_eq_true (by omega); clear c10; by_cases c12 : (bt t106 1) = 46
        ·rw [if_pos c12] at H; obtain ⟨c12b0, c12b1⟩ := zd c12; clear c12; by_cases c13 : 2 ≤ (t106.size : Int)
         ·rw [if_pos c13] at H; have c13b0 := eq_true c13; have c13b1 := decide_eq_true c13; clear c13; replace H := Option.bind_eq_some_iff.mp H; obtain ⟨t109, A140, H⟩ := H; replace H : (head_version.j0 k t106 (!t109)) = some (r1, r2) := H; have A14 := aM A140; clear A140; have H' := aM H; clear H
          go_wp2_with (first | ((with_reducible refine gate_callee (f := 158) rfl ?_); refine goesL_ (some 19) rfl rfl Tryz.func158 (by kernel_rfl) rfl #[.string (t106.extract 0 1)] rfl zL ?_; (with_reducible refine (head_digits.calls k (t106.extract 0 1) true _ A8.out).mono ?_); rintro e w' ⟨rfl, ⟨nd, rfl⟩⟩; refine ⟨_, rfl, ?_⟩; have p11 : 0 ≤ (1 : Int) := (by omega); have q11 : 1 < t106.size := (by have : (1 : Int) < (t106.size : Int) := of_decide_eq_true zA; omega); have hx11 : ∀ h : 1 < t106.size, ((t106[1]'h).toNat : Int) = bt t106 1 := bt_at t106 1; clear p11; have qi11 : (1 < (t106.size : Int)) = True := eq_true (of_decide_eq_true zA); replace q11 := eq_true q11) | ((with_reducible refine gate_callee (f := 158) rfl ?_); refine goesL_ (some 26) rfl rfl Tryz.func158 (by kernel_rfl) rfl #[.string (t106.extract 2 t106.size)] rfl zL ?_; (with_reducible refine (head_digits.calls k (t106.extract 2 t106.size) t109 _ A14.out).mono ?_); rintro e w' ⟨rfl, ⟨nd, rfl⟩⟩; refine ⟨_, rfl, ?_⟩))
          go_meet
          case rel => exact ⟨_, (!t109), zR, H', ⟨by first | omega | exact Nat.le_refl _⟩, zD⟩
         ·exact zf c13 H
        ·rw [if_neg c12] at H; obtain ⟨c12b0, c12b1⟩ := ze c12; have H' := aM H; clear H
         go_wp2_with (first | ((with_reducible refine gate_callee (f := 158) rfl ?_); refine goesL_ (some 19) rfl rfl Tryz.func158 (by kernel_rfl) rfl #[.string (t106.extract 0 1)] rfl zL ?_; (with_reducible refine (head_digits.calls k (t106.extract 0 1) true _ A8.out).mono ?_); rintro e w' ⟨rfl, ⟨nd, rfl⟩⟩; refine ⟨_, rfl, ?_⟩; have p11 : 0 ≤ (1 : Int) := (by omega); have q11 : 1 < t106.size := (by have : (1 : Int) < (t106.size : Int) := of_decide_eq_true zA; omega); have hx11 : ∀ h : 1 < t106.size, ((t106[1]'h).toNat : Int) = bt t106 1 := bt_at t106 1; clear p11; have qi11 : (1 < (t106.size : Int)) = True := eq_true (of_decide_eq_true zA); replace q11 := eq_true q11))
         go_meet
         case rel => exact ⟨_, (((bt t106 1) != 46)), zR, H', ⟨by first | omega | exact Nat.le_refl _⟩, zD⟩
       ·exact zf c10 H
      ·replace c9 := Bool.eq_false_iff.mpr c9; subst c9; rw [if_neg (show ¬ (false = true) by decide)] at H; have H' := aM H; clear H
       go_wp2_with (first | ((with_reducible refine gate_callee (f := 158) rfl ?_); refine goesL_ (some 19) rfl rfl Tryz.func158 (by kernel_rfl) rfl #[.string (t106.extract 0 1)] rfl zL ?_; (with_reducible refine (head_digits.calls k (t106.extract 0 1) false _ A8.out).mono ?_); rintro e w' ⟨rfl, ⟨nd, rfl⟩⟩; refine ⟨_, rfl, ?_⟩))
       go_meet
       case rel => exact ⟨_, (!false), zR, H', ⟨by first | omega | exact Nat.le_refl _⟩, zD⟩
     ·exact zf c7 H
    ·exact zf c6 H
   ·rw [if_neg c5] at H; obtain ⟨c5b0, c5b1⟩ := ze c5
    (first | rw [c5b0] | (simp only [i64_w, i32_w]; rw [c5b0]) | skip)
    have H' := aM H; clear H
    go_wp2
    go_meet
    case rel => exact ⟨_, (((t106.size : Int) != 3)), zR, H', ⟨by first | omega | exact Nat.le_refl _⟩, zD⟩
  ·replace c4 := Bool.eq_false_iff.mpr c4; subst c4; rw [if_neg (show ¬ (false = true) by decide)] at H; have H' := aM H; clear H
   go_wp2
   go_meet
   case rel => exact ⟨_, (!false), zR, H', ⟨by first | omega | exact Nat.le_refl _⟩, zD⟩
 case rest =>
  clear HC3; (try clear c1); (try clear p1); (try clear q1); (try clear hx1); (try clear qi1); (try clear p2); (try clear c4); (try clear c5); (try clear c5b0); (try clear c5b1); (try clear c6); (try clear c6b0); (try clear c6b1); (try clear c7); (try clear c7b0); (try clear c7b1); (try clear c9); (try clear c10); (try clear c10b0); (try clear c10b1); (try clear p11); (try clear q11); (try clear hx11); (try clear qi11); (try clear c12); (try clear c12b0); (try clear c12b1); (try clear c13); (try clear c13b0); (try clear c13b1); (try clear p11); (try clear q11); obtain ⟨kq, x11_2, rfl, HA, HJ2, ⟨mc2, rfl⟩⟩ := hcut; cases kq with
  | zero => exact absurd HA.out (by simp [head_version.j0])
  | succ kj2 =>
   have H := HA.out; clear HA; simp only [head_version.j0] at H; by_cases c15 : x11_2 = true
   ·subst c15; rw [if_pos rfl] at H; simp only [Option.some.injEq, Prod.mk.injEq] at H; obtain ⟨rfl, rfl⟩ := H
    go_wp2
    go_ret2
    exact ⟨zR, zD⟩
   ·replace c15 := Bool.eq_false_iff.mpr c15; subst c15; rw [if_neg (show ¬ (false = true) by decide)] at H; by_cases c16 : t106.toList = ([49, 46, 48] : List UInt8)
    ·rw [if_pos c16] at H; obtain ⟨c16b0, c16b1⟩ := zd c16; clear c16; by_cases c17 : 2 < (t106.size : Int)
     ·rw [if_pos c17] at H; have c17b0 := decide_eq_true c17; have c17b1 : decide (2 < t106.size) = true := decide_eq_true (by omega); clear c17; simp only [Option.some.injEq, Prod.mk.injEq] at H; obtain ⟨rfl, rfl⟩ := H; have p18 : 0 ≤ (2 : Int) := (by omega); have q18 : 2 < t106.size := (by have : (2 : Int) < (t106.size : Int) := of_decide_eq_true zA; omega); have hx18 : ∀ h : 2 < t106.size, ((t106[2]'h).toNat : Int) = bt t106 2 := bt_at t106 2; clear p18; have qi18 : (2 < (t106.size : Int)) = True := eq_true (of_decide_eq_true zA); replace q18 := eq_true q18
      go_wp2
      go_ret2
      exact ⟨zR, zD⟩
     ·exact zf c17 H
    ·rw [if_neg c16] at H; obtain ⟨c16b0, c16b1⟩ := ze c16; by_cases c19 : t106.toList = ([49, 46, 49] : List UInt8)
     ·rw [if_pos c19] at H; obtain ⟨c19b0, c19b1⟩ := zd c19; clear c19; by_cases c20 : 2 < (t106.size : Int)
      ·rw [if_pos c20] at H; have c20b0 := decide_eq_true c20; have c20b1 : decide (2 < t106.size) = true := decide_eq_true (by omega); clear c20; simp only [Option.some.injEq, Prod.mk.injEq] at H; obtain ⟨rfl, rfl⟩ := H; have p21 : 0 ≤ (2 : Int) := (by omega); have q21 : 2 < t106.size := (by have : (2 : Int) < (t106.size : Int) := of_decide_eq_true zA; omega); have hx21 : ∀ h : 2 < t106.size, ((t106[2]'h).toNat : Int) = bt t106 2 := bt_at t106 2; clear p21; have qi21 : (2 < (t106.size : Int)) = True := eq_true (of_decide_eq_true zA); replace q21 := eq_true q21
       go_wp2
       go_ret2
       exact ⟨zR, zD⟩
      ·exact zf c20 H
     ·rw [if_neg c19] at H; obtain ⟨c19b0, c19b1⟩ := ze c19; simp only [Option.some.injEq, Prod.mk.injEq] at H; obtain ⟨rfl, rfl⟩ := H
      go_wp2
      go_ret2
      exact ⟨zR, zD⟩

end Go.Proofs.YtapeodbgobkjeaaGreatDoor.P
