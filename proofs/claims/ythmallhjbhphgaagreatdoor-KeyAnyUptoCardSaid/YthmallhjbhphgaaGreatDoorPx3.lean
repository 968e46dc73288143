/- Printed by a program of the session out of the translation: plain Lean functions, each with the contract that the Go function computes it. -/
import Derived.Test.YthmallhjbhphgaaGreatDoorHZm
import Derived.Test.YthmallhjbhphgaaGreatDoorHZ
import Derived.Test.YthmallhjbhphgaaGreatDoorPx0
import Derived.Test.YthmallhjbhphgaaGreatDoorPx2
import Derived.Test.YthmallhjbhphgaaGreatDoorHZB
namespace Go.Proofs.YthmallhjbhphgaaGreatDoor.P
open Go.RowKit Go.Proofs.YthmallhjbhphgaaGreatDoorW.PrintWords Go.Proofs.YthmallhjbhphgaaGreatDoorW.PrintLast Go.Proofs.YthmallhjbhphgaaGreatDoorW.PrintMore
attribute [local go_sem] max2_int min2_int max_two min_two max_three min_three max_four min_four   -- for this text's walks alone
set_option linter.unusedVariables false
set_option linter.unusedSimpArgs false

mutual
def num_Parse.j0 : Nat → ByteArray → Int → Int → Int → Bool → Option (Int × Int)
 | 0, _, _, _, _, _ => none
 | k + 1, x0, x1, x4, x5, x17 => if x17 = true then (some (0, 1)) else (num_Parse.l0 k x0 x1 x4 x5 (x0.size : Int) 0)
def num_Parse.l0 : Nat → ByteArray → Int → Int → Int → Int → Int → Option (Int × Int)
 | 0, _, _, _, _, _, _ => none
 | k + 1, x0, x1, x4, x5, x19, x20 => if x20 < x19 then (if 0 ≤ x20 then (if x20 < (x0.size : Int) then ((num_digit.f k (bt x0 x20) x1).bind fun t166 => (if t166 = (-1) then (some (0, 1)) else (if x5 = 0 then (num_Parse.j2 k x0 x1 (wrap64 ((wrap64 (x4 * x1)) + t166)) x5 x19 x20) else (num_Parse.j2 k x0 x1 x4 x5 x19 x20)))) else (none)) else (none)) else (some (x4, x5))
def num_Parse.j2 : Nat → ByteArray → Int → Int → Int → Int → Int → Option (Int × Int)
 | 0, _, _, _, _, _, _ => none
 | k + 1, x0, x1, x4, x5, x19, x20 => (num_Fits.f x4).bind fun t167 => (if t167 = true then (num_Parse.l0 k x0 x1 x4 x5 x19 (wrap64 (x20 + 1))) else (num_Parse.l0 k x0 x1 0 3 x19 (wrap64 (x20 + 1))))
end
def num_Parse.f (k : Nat) (a0 : ByteArray) (a1 : Int) : Option (Int × Int) := if a0.toList = ([] : List UInt8) then (num_Parse.j0 k a0 a1 0 0 true) else (if a1 = 10 then (num_Parse.j0 k a0 a1 0 0 false) else (num_Parse.j0 k a0 a1 0 0 (a1 != 16)))
theorem num_Parse.mono_l : ∀ k, (∀ y0 y1 y2 y3 y4, LeO (num_Parse.j0 k y0 y1 y2 y3 y4) (num_Parse.j0 (k + 1) y0 y1 y2 y3 y4)) ∧ (∀ y0 y1 y2 y3 y4 y5, LeO (num_Parse.l0 k y0 y1 y2 y3 y4 y5) (num_Parse.l0 (k + 1) y0 y1 y2 y3 y4 y5)) ∧ (∀ y0 y1 y2 y3 y4 y5, LeO (num_Parse.j2 k y0 y1 y2 y3 y4 y5) (num_Parse.j2 (k + 1) y0 y1 y2 y3 y4 y5))
 | 0 => ⟨fun _ _ _ _ _ r h => by simp [num_Parse.j0] at h, fun _ _ _ _ _ _ r h => by simp [num_Parse.l0] at h, fun _ _ _ _ _ _ r h => by simp [num_Parse.j2] at h⟩
 | k + 1 => by
  obtain ⟨ih0, ih1, ih2⟩ := num_Parse.mono_l k
  refine ⟨?_, ?_, ?_⟩
  ·intro y0 y1 y2 y3 y4
   unfold num_Parse.j0; have m0 := @num_digit.mono; exact zM
  ·intro y0 y1 y2 y3 y4 y5
   unfold num_Parse.l0; have m0 := @num_digit.mono; exact zM
  ·intro y0 y1 y2 y3 y4 y5
   unfold num_Parse.j2; have m0 := @num_digit.mono; exact zM
theorem num_Parse.mono : ∀ a0 a1 k, LeO (num_Parse.f k a0 a1) (num_Parse.f (k + 1) a0 a1) := by
 intro a0 a1 k
 obtain ⟨ih0, ih1, ih2⟩ := num_Parse.mono_l k
 unfold num_Parse.f; have m0 := @num_digit.mono; exact zM
set_option maxHeartbeats 8000000 in
set_option maxRecDepth 100000 in
theorem num_Parse.calls (k : Nat) (a0 : ByteArray) (a1 : Int) (r1 : Int) (r2 : Int) (w : World) (h : num_Parse.f k a0 a1 = some (r1, r2)) :
  Calls Tryz.prog 98 #[.string a0, .int .i64 a1] w fun e w' => e = .returned (.tuple #[.int .i64 r1, .int .i64 r2]) ∧ Drawn0 w w' := by
 have H : (if a0.toList = ([] : List UInt8) then (num_Parse.j0 k a0 a1 0 0 true) else (if a1 = 10 then (num_Parse.j0 k a0 a1 0 0 false) else (num_Parse.j0 k a0 a1 0 0 (a1 != 16)))) = some (r1, r2) := h; clear h; have HC3 := aM H; clear H
 go_enter Tryz.func98, Tryz.ntmps98
 go_upto_region 1 with (fail)
 go_cut [17] (fun v17 wc => ∃ (kq : Nat) (x17_2 : Bool), v17 = .bool x17_2 ∧ Aside0 (num_Parse.j0 kq a0 a1 0 0 x17_2 = some (r1, r2)) ∧ Aside0 (kq ≤ k) ∧ Drawn0 w wc)
 case first =>
  have H := HC3.out; clear HC3; by_cases c4 : a0.toList = ([] : List UInt8)
  ·rw [if_pos c4] at H; obtain ⟨c4b0, c4b1⟩ := zd c4; clear c4
   (first | rw [c4b0] | (simp only [i64_w, i32_w]; rw [c4b0]) | skip)
   have H' := aM H; clear H
   go_wp2
   go_meet
   case rel => exact ⟨_, (true), zR, H', ⟨by first | omega | exact Nat.le_refl _⟩, zD⟩
  ·rw [if_neg c4] at H; obtain ⟨c4b0, c4b1⟩ := ze c4
   (first | rw [c4b0] | (simp only [i64_w, i32_w]; rw [c4b0]) | skip)
   by_cases c5 : a1 = 10
   ·rw [if_pos c5] at H; obtain ⟨c5b0, c5b1⟩ := zd c5; clear c5; have H' := aM H; clear H
    go_wp2
    go_meet
    case rel => exact ⟨_, (false), zR, H', ⟨by first | omega | exact Nat.le_refl _⟩, zD⟩
   ·rw [if_neg c5] at H; obtain ⟨c5b0, c5b1⟩ := ze c5; have H' := aM H; clear H
    go_wp2
    go_meet
    case rel => exact ⟨_, ((a1 != 16)), zR, H', ⟨by first | omega | exact Nat.le_refl _⟩, zD⟩
 case rest =>
  clear HC3; (try clear p2); (try clear c4); (try clear c4b0); (try clear c4b1); (try clear c5); (try clear c5b0); (try clear c5b1); obtain ⟨kq, x17_2, rfl, HA, HJ2, ⟨mc2, rfl⟩⟩ := hcut; cases kq with
  | zero => exact absurd HA.out (by simp [num_Parse.j0])
  | succ kj2 =>
   have H := HA.out; clear HA; simp only [num_Parse.j0] at H; by_cases c6 : x17_2 = true
   ·subst c6; rw [if_pos rfl] at H; simp only [Option.some.injEq, Prod.mk.injEq] at H; obtain ⟨rfl, rfl⟩ := H
    go_wp2
    go_ret2
    exact ⟨zR, zD⟩
   ·replace c6 := Bool.eq_false_iff.mpr c6; subst c6; rw [if_neg (show ¬ (false = true) by decide)] at H; have H' := aM H; clear H
    go_wp2
    go_loopg [4, 5, 20] kj2 (fun kq v4 v5 v20 w' => ∃ (x4_2 : Int) (x5_2 : Int) (x20_2 : Int), v4 = .int .i64 x4_2 ∧ v5 = .int .i64 x5_2 ∧ v20 = .int .i64 x20_2 ∧ Aside0 (num_Parse.l0 kq a0 a1 x4_2 x5_2 (a0.size : Int) x20_2 = some (r1, r2)) ∧ Aside0 (kq ≤ kj2) ∧ Drawn0 w w')
    case atStart => exact ⟨(0), (0), (0), zR, zR, zR, H', ⟨Nat.le_refl _⟩, zD⟩
    case round =>
     clear H'; (try clear c2); (try clear p2); (try clear c4); (try clear c4b0); (try clear c4b1); (try clear c5); (try clear c5b0); (try clear c5b1); (try clear c6); (try clear p2); obtain ⟨x4_2, x5_2, x20_2, rfl, rfl, rfl, HA, HK2, ⟨m2, rfl⟩⟩ := hrel; cases gk with
     | zero => exact absurd HA.out (by simp [num_Parse.l0])
     | succ k2 =>
      have H := HA.out; clear HA; simp only [num_Parse.l0] at H; by_cases c7 : x20_2 < (a0.size : Int)
      ·rw [if_pos c7] at H; have c7b0 := decide_eq_true c7; clear c7; by_cases c8 : 0 ≤ x20_2
       ·rw [if_pos c8] at H; have c8b0 := decide_eq_true c8; clear c8; by_cases c9 : x20_2 < (a0.size : Int)
        ·rw [if_pos c9] at H; have c9b0 := decide_eq_true c9; clear c9; obtain ⟨t166, A11, H⟩ := zc H; (try dsimp only at H); by_cases c12 : t166 = (-1)
         ·rw [if_pos c12] at H; obtain ⟨c12b0, c12b1⟩ := zd c12; clear c12; simp only [Option.some.injEq, Prod.mk.injEq] at H; obtain ⟨rfl, rfl⟩ := H; have p10 : 0 ≤ (x20_2 : Int) := of_decide_eq_true zA; have q10 : x20_2 < (a0.size : Int) := of_decide_eq_true zA; have hx10 := bt_at a0 x20_2; replace p10 := eq_true p10; replace q10 := eq_true q10
          go_wp2_with (first | ((with_reducible refine gate_callee (f := 112) rfl ?_); refine goesL_ (some 27) rfl rfl Tryz.func112 (by kernel_rfl) rfl #[.int .u8 (bt a0 x20_2), .int .i64 a1] rfl zL ?_; (with_reducible refine (num_digit.calls k2 (bt a0 x20_2) a1 t166 _ A11.out).mono ?_); rintro e w' ⟨rfl, ⟨nd, rfl⟩⟩; refine ⟨_, rfl, ?_⟩))
          go_ret2
          exact ⟨zR, zD⟩
         ·rw [if_neg c12] at H; obtain ⟨c12b0, c12b1⟩ := ze c12; have HC13 := aM H; clear H; have p10 : 0 ≤ (x20_2 : Int) := of_decide_eq_true zA; have q10 : x20_2 < (a0.size : Int) := of_decide_eq_true zA; have hx10 := bt_at a0 x20_2; replace p10 := eq_true p10; replace q10 := eq_true q10
          go_upto_if 31 with (first | ((with_reducible refine gate_callee (f := 112) rfl ?_); refine goesL_ (some 27) rfl rfl Tryz.func112 (by kernel_rfl) rfl #[.int .u8 (bt a0 x20_2), .int .i64 a1] rfl zL ?_; (with_reducible refine (num_digit.calls k2 (bt a0 x20_2) a1 t166 _ A11.out).mono ?_); rintro e w' ⟨rfl, ⟨nd, rfl⟩⟩; refine ⟨_, rfl, ?_⟩))
          (try simp only [Act.put, List.setIfInBounds_toArray, List.set_cons_zero, List.set_cons_succ])
          go_cut [4] (fun v4 wc => ∃ (kq : Nat) (x4_12 : Int), v4 = .int .i64 x4_12 ∧ Aside0 (num_Parse.j2 kq a0 a1 x4_12 x5_2 (a0.size : Int) x20_2 = some (r1, r2)) ∧ Aside0 (kq ≤ k2) ∧ Drawn0 w wc)
          case first =>
           have H := HC13.out; clear HC13; by_cases c14 : x5_2 = 0
           ·rw [if_pos c14] at H; obtain ⟨c14b0, c14b1⟩ := zd c14; clear c14
            (first | rw [c14b0] | (simp only [i64_w, i32_w]; rw [c14b0]) | skip)
            have H' := aM H; clear H
            go_wp2
            go_meet
            case rel => exact ⟨_, (wrap64 ((wrap64 (x4_2 * a1)) + t166)), zR, H', ⟨by have := HJ2.out; have := HK2.out; first | omega | exact Nat.le_refl _⟩, zD⟩
           ·rw [if_neg c14] at H; obtain ⟨c14b0, c14b1⟩ := ze c14
            (first | rw [c14b0] | (simp only [i64_w, i32_w]; rw [c14b0]) | skip)
            have H' := aM H; clear H
            go_wp2
            go_meet
            case rel => exact ⟨_, (x4_2), zR, H', ⟨by have := HJ2.out; have := HK2.out; first | omega | exact Nat.le_refl _⟩, zD⟩
          case rest =>
           clear HC13; (try clear c1); (try clear p1); (try clear q1); (try clear hx1); (try clear c2); (try clear p2); (try clear c4); (try clear c4b0); (try clear c4b1); (try clear c5); (try clear c5b0); (try clear c5b1); (try clear c6); (try clear p6); (try clear c7); (try clear c7b0); (try clear c8); (try clear c8b0); (try clear c9); (try clear c9b0); (try clear p10); (try clear q10); (try clear hx10); (try clear c11); (try clear c12); (try clear c12b0); (try clear c12b1); (try clear c14); (try clear c14b0); (try clear c14b1); (try clear p10); (try clear p2); (try clear q10); obtain ⟨kq, x4_12, rfl, HA, HJ12, ⟨mc12, rfl⟩⟩ := hcut; cases kq with
           | zero => exact absurd HA.out (by simp [num_Parse.j2])
           | succ kj12 =>
            have H := HA.out; clear HA; simp only [num_Parse.j2] at H; replace H := Option.bind_eq_some_iff.mp H; obtain ⟨t167, A150, H⟩ := H; replace H : (if t167 = true then (num_Parse.l0 kj12 a0 a1 x4_12 x5_2 (a0.size : Int) (wrap64 (x20_2 + 1))) else (num_Parse.l0 kj12 a0 a1 0 3 (a0.size : Int) (wrap64 (x20_2 + 1)))) = some (r1, r2) := H; have A15 := aM A150; clear A150; by_cases c16 : t167 = true
            ·subst c16; rw [if_pos rfl] at H; have H' := aM H; clear H
             go_wp2_with (first | ((with_reducible refine gate_callee (f := 113) rfl ?_); refine goesL_ (some 38) rfl rfl Tryz.func113 (by kernel_rfl) rfl #[.int .i64 x4_12] rfl zL ?_; (with_reducible refine (num_Fits.calls x4_12 true _ A15.out).mono ?_); rintro e w' ⟨rfl, ⟨nd, rfl⟩⟩; refine ⟨_, rfl, ?_⟩))
             go_roundg kj12
             case measure => have := HJ2.out; have := HK2.out; have := HJ12.out; omega
             case rel => exact ⟨(x4_12), (x5_2), (wrap64 (x20_2 + 1)), zR, zR, zR, H', ⟨by have := HJ2.out; have := HK2.out; have := HJ12.out; omega⟩, zD⟩
            ·replace c16 := Bool.eq_false_iff.mpr c16; subst c16; rw [if_neg (show ¬ (false = true) by decide)] at H; have H' := aM H; clear H
             go_wp2_with (first | ((with_reducible refine gate_callee (f := 113) rfl ?_); refine goesL_ (some 38) rfl rfl Tryz.func113 (by kernel_rfl) rfl #[.int .i64 x4_12] rfl zL ?_; (with_reducible refine (num_Fits.calls x4_12 false _ A15.out).mono ?_); rintro e w' ⟨rfl, ⟨nd, rfl⟩⟩; refine ⟨_, rfl, ?_⟩))
             go_roundg kj12
             case measure => have := HJ2.out; have := HK2.out; have := HJ12.out; omega
             case rel => exact ⟨(0), (3), (wrap64 (x20_2 + 1)), zR, zR, zR, H', ⟨by have := HJ2.out; have := HK2.out; have := HJ12.out; omega⟩, zD⟩
        ·exact zf c9 H
       ·exact zf c8 H
      ·rw [if_neg c7] at H; have c7b0 := decide_eq_false c7; clear c7; simp only [Option.some.injEq, Prod.mk.injEq] at H; obtain ⟨rfl, rfl⟩ := H
       go_wp2
       go_ret2
       exact ⟨zR, zD⟩

def target_escape.f (k : Nat) (a0 : ByteArray) : Option (Int) := if (a0.size : Int) < 2 then (some 0) else (if 0 ≤ 2 then (if 2 ≤ (a0.size : Int) then ((num_Parse.f k (a0.extract 0 2) 16).bind fun bt168 => (if bt168.2 = 0 then (some ((bt168.1) % 256)) else (some 0))) else (none)) else (none))
theorem target_escape.mono : ∀ a0 k, LeO (target_escape.f k a0) (target_escape.f (k + 1) a0) := by
 intro a0 k
 unfold target_escape.f; have m0 := @num_Parse.mono; exact zM
set_option maxHeartbeats 8000000 in
set_option maxRecDepth 100000 in
theorem target_escape.calls (k : Nat) (a0 : ByteArray) (r : Int) (w : World) (h : target_escape.f k a0 = some r) :
  Calls Tryz.prog 74 #[.string a0] w fun e w' => e = .returned (.int .u8 r) ∧ Drawn0 w w' := by
 have H := h; unfold target_escape.f at H; clear h; by_cases c2 : (a0.size : Int) < 2
 ·rw [if_pos c2] at H; have c2b0 := decide_eq_true c2; have c2b1 : decide (a0.size < 2) = true := decide_eq_true (by omega); clear c2; obtain rfl := Option.some.inj H
  go_enter Tryz.func74, Tryz.ntmps74
  go_wp2
  go_ret
  exact ⟨zR, zD⟩
 ·rw [if_neg c2] at H; have c2b0 := decide_eq_false c2; have c2b1 : decide (a0.size < 2) = false := decide_eq_false (by omega); clear c2; by_cases c3 : 0 ≤ 2
  ·rw [if_pos c3] at H; have c3b0 := eq_true c3; have c3b1 := decide_eq_true c3; clear c3; by_cases c4 : 2 ≤ (a0.size : Int)
   ·rw [if_pos c4] at H; have c4b0 := eq_true c4; have c4b1 := decide_eq_true c4; clear c4; replace H := Option.bind_eq_some_iff.mp H; obtain ⟨⟨t168, t169⟩, A50, H⟩ := H; replace H : (if t169 = 0 then (some ((t168) % 256)) else (some 0)) = some r := H; have A5 := aM A50; clear A50; by_cases c6 : t169 = 0
    ·rw [if_pos c6] at H; obtain ⟨c6b0, c6b1⟩ := zd c6; clear c6; obtain rfl := Option.some.inj H
     go_enter Tryz.func74, Tryz.ntmps74
     go_wp2_with (first | ((with_reducible refine gate_callee (f := 98) rfl ?_); refine goesL_ (some 11) rfl rfl Tryz.func98 (by kernel_rfl) rfl #[.string (a0.extract 0 2), .int .i64 16] rfl zL ?_; (with_reducible refine (num_Parse.calls k (a0.extract 0 2) 16 t168 t169 _ A5.out).mono ?_); rintro e w' ⟨rfl, ⟨nd, rfl⟩⟩; refine ⟨_, rfl, ?_⟩))
     go_ret
     exact ⟨zR, zD⟩
    ·rw [if_neg c6] at H; obtain ⟨c6b0, c6b1⟩ := ze c6; obtain rfl := Option.some.inj H
     go_enter Tryz.func74, Tryz.ntmps74
     go_wp2_with (first | ((with_reducible refine gate_callee (f := 98) rfl ?_); refine goesL_ (some 11) rfl rfl Tryz.func98 (by kernel_rfl) rfl #[.string (a0.extract 0 2), .int .i64 16] rfl zL ?_; (with_reducible refine (num_Parse.calls k (a0.extract 0 2) 16 t168 t169 _ A5.out).mono ?_); rintro e w' ⟨rfl, ⟨nd, rfl⟩⟩; refine ⟨_, rfl, ?_⟩))
     go_ret
     exact ⟨zR, zD⟩
   ·exact zf c4 H
  ·exact zf c3 H

def target_free.f (a0 : Int) : Option (Bool) := if a0 ≥ 97 then (if a0 ≤ 122 then (some true) else (if a0 ≥ 65 then (if a0 ≤ 90 then (some true) else (if a0 ≥ 48 then (if a0 ≤ 57 then (some true) else ((strings_IndexByte.f (⟨#[45, 46, 95, 126]⟩ : ByteArray) a0).bind fun t170 => (some (decide (t170 ≥ 0))))) else ((strings_IndexByte.f (⟨#[45, 46, 95, 126]⟩ : ByteArray) a0).bind fun t171 => (some (decide (t171 ≥ 0)))))) else (if a0 ≥ 48 then (if a0 ≤ 57 then (some true) else ((strings_IndexByte.f (⟨#[45, 46, 95, 126]⟩ : ByteArray) a0).bind fun t172 => (some (decide (t172 ≥ 0))))) else ((strings_IndexByte.f (⟨#[45, 46, 95, 126]⟩ : ByteArray) a0).bind fun t173 => (some (decide (t173 ≥ 0))))))) else (if a0 ≥ 65 then (if a0 ≤ 90 then (some true) else (if a0 ≥ 48 then (if a0 ≤ 57 then (some true) else ((strings_IndexByte.f (⟨#[45, 46, 95, 126]⟩ : ByteArray) a0).bind fun t174 => (some (decide (t174 ≥ 0))))) else ((strings_IndexByte.f (⟨#[45, 46, 95, 126]⟩ : ByteArray) a0).bind fun t175 => (some (decide (t175 ≥ 0)))))) else (if a0 ≥ 48 then (if a0 ≤ 57 then (some true) else ((strings_IndexByte.f (⟨#[45, 46, 95, 126]⟩ : ByteArray) a0).bind fun t176 => (some (decide (t176 ≥ 0))))) else ((strings_IndexByte.f (⟨#[45, 46, 95, 126]⟩ : ByteArray) a0).bind fun t177 => (some (decide (t177 ≥ 0))))))
set_option maxHeartbeats 8000000 in
set_option maxRecDepth 100000 in
theorem target_free.calls (a0 : Int) (r : Bool) (w : World) (h : target_free.f a0 = some r) :
  Calls Tryz.prog 75 #[.int .u8 a0] w fun e w' => e = .returned (.bool r) ∧ Drawn0 w w' := by
 have H := h; unfold target_free.f at H; clear h; by_cases c2 : a0 ≥ 97
 ·rw [if_pos c2] at H; have c2b0 := decide_eq_true c2; clear c2; by_cases c3 : a0 ≤ 122
  ·rw [if_pos c3] at H; have c3b0 := decide_eq_true c3; clear c3; obtain rfl := Option.some.inj H
   go_enter Tryz.func75, Tryz.ntmps75
   go_wp2
   go_ret
   exact ⟨zR, zD⟩
  ·rw [if_neg c3] at H; have c3b0 := decide_eq_false c3; clear c3; by_cases c4 : a0 ≥ 65
   ·rw [if_pos c4] at H; have c4b0 := decide_eq_true c4; clear c4; by_cases c5 : a0 ≤ 90
    ·rw [if_pos c5] at H; have c5b0 := decide_eq_true c5; clear c5; obtain rfl := Option.some.inj H
     go_enter Tryz.func75, Tryz.ntmps75
     go_wp2
     go_ret
     exact ⟨zR, zD⟩
    ·rw [if_neg c5] at H; have c5b0 := decide_eq_false c5; clear c5; by_cases c6 : a0 ≥ 48
     ·rw [if_pos c6] at H; have c6b0 := decide_eq_true c6; clear c6; by_cases c7 : a0 ≤ 57
      ·rw [if_pos c7] at H; have c7b0 := decide_eq_true c7; clear c7; obtain rfl := Option.some.inj H
       go_enter Tryz.func75, Tryz.ntmps75
       go_wp2
       go_ret
       exact ⟨zR, zD⟩
      ·rw [if_neg c7] at H; have c7b0 := decide_eq_false c7; clear c7; replace H := Option.bind_eq_some_iff.mp H; obtain ⟨t170, A80, H⟩ := H; replace H : (some (decide (t170 ≥ 0))) = some r := H; have A8 := aM A80; clear A80; obtain rfl := Option.some.inj H
       go_enter Tryz.func75, Tryz.ntmps75
       go_wp2_with (first | (go_at_call 56; (with_reducible refine (strings_IndexByte.calls (⟨#[45, 46, 95, 126]⟩ : ByteArray) a0 t170 _ A8.out).mono ?_); rintro e w' ⟨rfl, ⟨nd, rfl⟩⟩))
       go_ret
       exact ⟨zR, zD⟩
     ·rw [if_neg c6] at H; have c6b0 := decide_eq_false c6; clear c6; replace H := Option.bind_eq_some_iff.mp H; obtain ⟨t171, A90, H⟩ := H; replace H : (some (decide (t171 ≥ 0))) = some r := H; have A9 := aM A90; clear A90; obtain rfl := Option.some.inj H
      go_enter Tryz.func75, Tryz.ntmps75
      go_wp2_with (first | (go_at_call 56; (with_reducible refine (strings_IndexByte.calls (⟨#[45, 46, 95, 126]⟩ : ByteArray) a0 t171 _ A9.out).mono ?_); rintro e w' ⟨rfl, ⟨nd, rfl⟩⟩))
      go_ret
      exact ⟨zR, zD⟩
   ·rw [if_neg c4] at H; have c4b0 := decide_eq_false c4; clear c4; by_cases c10 : a0 ≥ 48
    ·rw [if_pos c10] at H; have c10b0 := decide_eq_true c10; clear c10; by_cases c11 : a0 ≤ 57
     ·rw [if_pos c11] at H; have c11b0 := decide_eq_true c11; clear c11; obtain rfl := Option.some.inj H
      go_enter Tryz.func75, Tryz.ntmps75
      go_wp2
      go_ret
      exact ⟨zR, zD⟩
     ·rw [if_neg c11] at H; have c11b0 := decide_eq_false c11; clear c11; replace H := Option.bind_eq_some_iff.mp H; obtain ⟨t172, A120, H⟩ := H; replace H : (some (decide (t172 ≥ 0))) = some r := H; have A12 := aM A120; clear A120; obtain rfl := Option.some.inj H
      go_enter Tryz.func75, Tryz.ntmps75
      go_wp2_with (first | (go_at_call 56; (with_reducible refine (strings_IndexByte.calls (⟨#[45, 46, 95, 126]⟩ : ByteArray) a0 t172 _ A12.out).mono ?_); rintro e w' ⟨rfl, ⟨nd, rfl⟩⟩))
      go_ret
      exact ⟨zR, zD⟩
    ·rw [if_neg c10] at H; have c10b0 := decide_eq_false c10; clear c10; replace H := Option.bind_eq_some_iff.mp H; obtain ⟨t173, A130, H⟩ := H; replace H : (some (decide (t173 ≥ 0))) = some r := H; have A13 := aM A130; clear A130; obtain rfl := Option.some.inj H
     go_enter Tryz.func75, Tryz.ntmps75
     go_wp2_with (first | (go_at_call 56; (with_reducible refine (strings_IndexByte.calls (⟨#[45, 46, 95, 126]⟩ : ByteArray) a0 t173 _ A13.out).mono ?_); rintro e w' ⟨rfl, ⟨nd, rfl⟩⟩))
     go_ret
     exact ⟨zR, zD⟩
 ·rw [if_neg c2] at H; have c2b0 := decide_eq_false c2; clear c2; by_cases c14 : a0 ≥ 65
  ·rw [if_pos c14] at H; have c14b0 := decide_eq_true c14; clear c14; by_cases c15 : a0 ≤ 90
   ·rw [if_pos c15] at H; have c15b0 := decide_eq_true c15; clear c15; obtain rfl := Option.some.inj H
    go_enter Tryz.func75, Tryz.ntmps75
    go_wp2
    go_ret
    exact ⟨zR, zD⟩
   ·rw [if_neg c15] at H; have c15b0 := decide_eq_false c15; clear c15; by_cases c16 : a0 ≥ 48
    ·rw [if_pos c16] at H; have c16b0 := decide_eq_true c16; clear c16; by_cases c17 : a0 ≤ 57
     ·rw [if_pos c17] at H; have c17b0 := decide_eq_true c17; clear c17; obtain rfl := Option.some.inj H
      go_enter Tryz.func75, Tryz.ntmps75
      go_wp2
      go_ret
      exact ⟨zR, zD⟩
     ·rw [if_neg c17] at H; have c17b0 := decide_eq_false c17; clear c17; replace H := Option.bind_eq_some_iff.mp H; obtain ⟨t174, A180, H⟩ := H; replace H : (some (decide (t174 ≥ 0))) = some r := H; have A18 := aM A180; clear A180; obtain rfl := Option.some.inj H
      go_enter Tryz.func75, Tryz.ntmps75
      go_wp2_with (first | (go_at_call 56; (with_reducible refine (strings_IndexByte.calls (⟨#[45, 46, 95, 126]⟩ : ByteArray) a0 t174 _ A18.out).mono ?_); rintro e w' ⟨rfl, ⟨nd, rfl⟩⟩))
      go_ret
      exact ⟨zR, zD⟩
    ·rw [if_neg c16] at H; have c16b0 := decide_eq_false c16; clear c16; replace H := Option.bind_eq_some_iff.mp H; obtain ⟨t175, A190, H⟩ := H; replace H : (some (decide (t175 ≥ 0))) = some r := H; have A19 := aM A190; clear A190; obtain rfl := Option.some.inj H
     go_enter Tryz.func75, Tryz.ntmps75
     go_wp2_with (first | (go_at_call 56; (with_reducible refine (strings_IndexByte.calls (⟨#[45, 46, 95, 126]⟩ : ByteArray) a0 t175 _ A19.out).mono ?_); rintro e w' ⟨rfl, ⟨nd, rfl⟩⟩))
     go_ret
     exact ⟨zR, zD⟩
  ·rw [if_neg c14] at H; have c14b0 := decide_eq_false c14; clear c14; by_cases c20 : a0 ≥ 48
   ·rw [if_pos c20] at H; have c20b0 := decide_eq_true c20; clear c20; by_cases c21 : a0 ≤ 57
    ·rw [if_pos c21] at H; have c21b0 := decide_eq_true c21; clear c21; obtain rfl := Option.some.inj H
     go_enter Tryz.func75, Tryz.ntmps75
     go_wp2
     go_ret
     exact ⟨zR, zD⟩
    ·rw [if_neg c21] at H; have c21b0 := decide_eq_false c21; clear c21; replace H := Option.bind_eq_some_iff.mp H; obtain ⟨t176, A220, H⟩ := H; replace H : (some (decide (t176 ≥ 0))) = some r := H; have A22 := aM A220; clear A220; obtain rfl := Option.some.inj H
     go_enter Tryz.func75, Tryz.ntmps75
     go_wp2_with (first | (go_at_call 56; (with_reducible refine (strings_IndexByte.calls (⟨#[45, 46, 95, 126]⟩ : ByteArray) a0 t176 _ A22.out).mono ?_); rintro e w' ⟨rfl, ⟨nd, rfl⟩⟩))
     go_ret
     exact ⟨zR, zD⟩
   ·rw [if_neg c20] at H; have c20b0 := decide_eq_false c20; clear c20; replace H := Option.bind_eq_some_iff.mp H; obtain ⟨t177, A230, H⟩ := H; replace H : (some (decide (t177 ≥ 0))) = some r := H; have A23 := aM A230; clear A230; obtain rfl := Option.some.inj H
    go_enter Tryz.func75, Tryz.ntmps75
    go_wp2_with (first | (go_at_call 56; (with_reducible refine (strings_IndexByte.calls (⟨#[45, 46, 95, 126]⟩ : ByteArray) a0 t177 _ A23.out).mono ?_); rintro e w' ⟨rfl, ⟨nd, rfl⟩⟩))
    go_ret
    exact ⟨zR, zD⟩

def target_free.Pure : Prop := ∀ (a0 : Int), (Lit.int .u8 a0).wf = true → target_free.f a0 = some true
theorem target_free.walk (P : target_free.Pure) (a0 : Int) (w : World) (w0 : (Lit.int .u8 a0).wf = true) :
  Calls Tryz.prog 75 #[.int .u8 a0] w fun e w' => e = .returned (.bool true) ∧ Below w.heap.size w w' := by
 have h := P a0 w0
 refine (target_free.calls a0 true w h).mono ?_
 rintro e w' ⟨rfl, hd⟩
 exact ⟨rfl, hd.below⟩

mutual
def target_may.l0 : Nat → ByteArray → Int → Int → Option (Bool)
 | 0, _, _, _ => none
 | k + 1, x0, x5, x6 => if x6 < x5 then (if 0 ≤ x6 then (if x6 < (x0.size : Int) then (if (bt x0 x6) < 33 then (target_may.j1 k x0 x5 x6 true) else (if (bt x0 x6) > 126 then (target_may.j1 k x0 x5 x6 true) else (target_may.j1 k x0 x5 x6 ((bt x0 x6) == 35)))) else (none)) else (none)) else (some true)
def target_may.j1 : Nat → ByteArray → Int → Int → Bool → Option (Bool)
 | 0, _, _, _, _ => none
 | k + 1, x0, x5, x6, x24 => if x24 = true then (some false) else (target_may.l0 k x0 x5 (wrap64 (x6 + 1)))
end
def target_may.f (k : Nat) (a0 : ByteArray) : Option (Bool) := target_may.l0 k a0 (a0.size : Int) 0
theorem target_may.mono_l : ∀ k, (∀ y0 y1 y2, LeO (target_may.l0 k y0 y1 y2) (target_may.l0 (k + 1) y0 y1 y2)) ∧ (∀ y0 y1 y2 y3, LeO (target_may.j1 k y0 y1 y2 y3) (target_may.j1 (k + 1) y0 y1 y2 y3))
 | 0 => ⟨fun _ _ _ r h => by simp [target_may.l0] at h, fun _ _ _ _ r h => by simp [target_may.j1] at h⟩
 | k + 1 => by
  obtain ⟨ih0, ih1⟩ := target_may.mono_l k
  refine ⟨?_, ?_⟩
  ·intro y0 y1 y2
   unfold target_may.l0; exact zM
  ·intro y0 y1 y2 y3
   unfold target_may.j1; exact zM
theorem target_may.mono : ∀ a0 k, LeO (target_may.f k a0) (target_may.f (k + 1) a0) := by
 intro a0 k
 obtain ⟨ih0, ih1⟩ := target_may.mono_l k
 unfold target_may.f; exact zM
set_option maxHeartbeats 8000000 in
set_option maxRecDepth 100000 in
theorem target_may.calls (k : Nat) (a0 : ByteArray) (r : Bool) (w : World) (h : target_may.f k a0 = some r) :
  Calls Tryz.prog 59 #[.string a0] w fun e w' => e = .returned (.bool r) ∧ Drawn0 w w' := by
 have H : (target_may.l0 k a0 (a0.size : Int) 0) = some r := h; clear h; have H' := aM H; clear H
 go_enter Tryz.func59, Tryz.ntmps59
 go_wp2
 go_loopg [6] k (fun kq v6 w' => ∃ (x6_1 : Int), v6 = .int .i64 x6_1 ∧ Aside0 (target_may.l0 kq a0 (a0.size : Int) x6_1 = some r) ∧ Aside0 (kq ≤ k) ∧ Drawn0 w w')
 case atStart => exact ⟨(0), zR, H', ⟨Nat.le_refl _⟩, zD⟩
 case round =>
  clear H'; obtain ⟨x6_1, rfl, HA, HK1, ⟨m1, rfl⟩⟩ := hrel; cases gk with
  | zero => exact absurd HA.out (by simp [target_may.l0])
  | succ k1 =>
   have H := HA.out; clear HA; simp only [target_may.l0] at H; by_cases c2 : x6_1 < (a0.size : Int)
   ·rw [if_pos c2] at H; have c2b0 := decide_eq_true c2; clear c2; have HC3 := aM H; clear H
    go_upto_region 4 with (fail)
    go_cut [24] (fun v24 wc => ∃ (kq : Nat) (x24_2 : Bool), v24 = .bool x24_2 ∧ Aside0 (target_may.j1 kq a0 (a0.size : Int) x6_1 x24_2 = some r) ∧ Aside0 (kq ≤ k1) ∧ Drawn0 w wc)
    case first =>
     have H := HC3.out; clear HC3; by_cases c4 : 0 ≤ x6_1
     ·rw [if_pos c4] at H; have c4b0 := decide_eq_true c4; clear c4
      (first | rw [c4b0] | (simp only [i64_w, i32_w]; rw [c4b0]) | skip)
      by_cases c5 : x6_1 < (a0.size : Int)
      ·rw [if_pos c5] at H; have c5b0 := decide_eq_true c5; clear c5; by_cases c7 : (bt a0 x6_1) < 33
       ·rw [if_pos c7] at H; have c7b0 := decide_eq_true c7; clear c7; have H' := aM H; clear H; have p6 : 0 ≤ (x6_1 : Int) := of_decide_eq_true zA; have q6 : x6_1 < (a0.size : Int) := of_decide_eq_true zA; have hx6 := bt_at a0 x6_1; replace p6 := eq_true p6; replace q6 := eq_true q6
        go_wp2
        go_meet
        case rel => exact ⟨_, (true), zR, H', ⟨by have := HK1.out; first | omega | exact Nat.le_refl _⟩, zD⟩
       ·rw [if_neg c7] at H; have c7b0 := decide_eq_false c7; clear c7; by_cases c9 : (bt a0 x6_1) > 126
        ·rw [if_pos c9] at H; have c9b0 := decide_eq_true c9; clear c9; have H' := aM H; clear H; have p6 : 0 ≤ (x6_1 : Int) := of_decide_eq_true zA; have q6 : x6_1 < (a0.size : Int) := of_decide_eq_true zA; have hx6 := bt_at a0 x6_1; replace p6 := eq_true p6; replace q6 := eq_true q6; have p8 : 0 ≤ (x6_1 : Int) := of_decide_eq_true zA; have q8 : x6_1 < (a0.size : Int) := of_decide_eq_true zA; have hx8 := bt_at a0 x6_1; replace p8 := eq_true p8; replace q8 := eq_true q8
         go_wp2
         go_meet
         case rel => exact ⟨_, (true), zR, H', ⟨by have := HK1.out; first | omega | exact Nat.le_refl _⟩, zD⟩
        ·rw [if_neg c9] at H; have c9b0 := decide_eq_false c9; clear c9; have H' := aM H; clear H; have p6 : 0 ≤ (x6_1 : Int) := of_decide_eq_true zA; have q6 : x6_1 < (a0.size : Int) := of_decide_eq_true zA; have hx6 := bt_at a0 x6_1; replace p6 := eq_true p6; replace q6 := eq_true q6; have p8 : 0 ≤ (x6_1 : Int) := of_decide_eq_true zA; have q8 : x6_1 < (a0.size : Int) := of_decide_eq_true zA; have hx8 := bt_at a0 x6_1; replace p8 := eq_true p8; replace q8 := eq_true q8; have p10 : 0 ≤ (x6_1 : Int) := of_decide_eq_true zA; have q10 : x6_1 < (a0.size : Int) := of_decide_eq_true zA; have hx10 := bt_at a0 x6_1; replace p10 := eq_true p10; replace q10 := eq_true q10
         go_wp2
         go_meet
         case rel => exact ⟨_, (((bt a0 x6_1) == 35)), zR, H', ⟨by have := HK1.out; first | omega | exact Nat.le_refl _⟩, zD⟩
      ·exact zf c5 H
     ·exact zf c4 H
    case rest =>
     clear HC3; (try clear p1); (try clear q1); (try clear hx1); (try clear c2); (try clear c2b0); (try clear p2); (try clear c4); (try clear c4b0); (try clear c5); (try clear c5b0); (try clear p6); (try clear q6); (try clear hx6); (try clear c7); (try clear c7b0); (try clear p8); (try clear q8); (try clear hx8); (try clear c9); (try clear c9b0); (try clear p10); (try clear q10); (try clear hx10); (try clear p10); (try clear p6); (try clear p8); (try clear q10); (try clear q6); (try clear q8); obtain ⟨kq, x24_2, rfl, HA, HJ2, ⟨mc2, rfl⟩⟩ := hcut; cases kq with
     | zero => exact absurd HA.out (by simp [target_may.j1])
     | succ kj2 =>
      have H := HA.out; clear HA; simp only [target_may.j1] at H; by_cases c11 : x24_2 = true
      ·subst c11; rw [if_pos rfl] at H; obtain rfl := Option.some.inj H
       go_wp2
       go_ret
       exact ⟨zR, zD⟩
      ·replace c11 := Bool.eq_false_iff.mpr c11; subst c11; rw [if_neg (show ¬ (false = true) by decide)] at H; have H' := aM H; clear H
       go_wp2
       go_roundg kj2
       case measure => have := HK1.out; have := HJ2.out; omega
       case rel => exact ⟨(wrap64 (x6_1 + 1)), zR, H', ⟨by have := HK1.out; have := HJ2.out; omega⟩, zD⟩
   ·rw [if_neg c2] at H; have c2b0 := decide_eq_false c2; clear c2; obtain rfl := Option.some.inj H
    go_wp2
    go_ret
    exact ⟨zR, zD⟩

def target_may.Pure : Prop := ∀ (a0 : ByteArray), a0.size ≤ 140737488351232 → ∃ k, target_may.f k a0 = some true
theorem target_may.walk (P : target_may.Pure) (a0 : ByteArray) (w : World) (w0 : a0.size ≤ 140737488351232) :
  Calls Tryz.prog 59 #[.string a0] w fun e w' => e = .returned (.bool true) ∧ Below w.heap.size w w' := by
 obtain ⟨k, h⟩ := P a0 w0
 refine (target_may.calls k a0 true w h).mono ?_
 rintro e w' ⟨rfl, hd⟩
 exact ⟨rfl, hd.below⟩

end Go.Proofs.YthmallhjbhphgaaGreatDoor.P
