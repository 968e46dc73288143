/- Printed by a program of the session out of the translation: plain Lean functions, each with the contract that the Go function computes it. -/
import Derived.Test.YthmallhjbhphgaaGreatDoorHZm
import Derived.Test.YthmallhjbhphgaaGreatDoorHZ
import Derived.Test.YthmallhjbhphgaaGreatDoorPx0
import Derived.Test.YthmallhjbhphgaaGreatDoorPx5
namespace Go.Proofs.YthmallhjbhphgaaGreatDoor.P
open Go.RowKit Go.Proofs.YthmallhjbhphgaaGreatDoorW.PrintWords Go.Proofs.YthmallhjbhphgaaGreatDoorW.PrintLast Go.Proofs.YthmallhjbhphgaaGreatDoorW.PrintMore
attribute [local go_sem] max2_int min2_int max_two min_two max_three min_three max_four min_four   -- for this text's walks alone
set_option linter.unusedVariables false
set_option linter.unusedSimpArgs false

def lockageref05_blank.f (a0 : Int) : Option (Bool) := if a0 = 32 then (some true) else (some (a0 == 9))
set_option maxHeartbeats 8000000 in
set_option maxRecDepth 100000 in
theorem lockageref05_blank.calls (a0 : Int) (r : Bool) (w : World) (h : lockageref05_blank.f a0 = some r) :
  Calls Tryz.prog 82 #[.int .u8 a0] w fun e w' => e = .returned (.bool r) ∧ Drawn0 w w' := by
 have H : (if a0 = 32 then (some true) else (some (a0 == 9))) = some r := h; clear h; by_cases c2 : a0 = 32
 ·rw [if_pos c2] at H; obtain ⟨c2b0, c2b1⟩ := zd c2; clear c2; obtain rfl := Option.some.inj H
  go_enter Tryz.func82, Tryz.ntmps82
  go_wp2
  go_ret
  exact ⟨zR, zD⟩
 ·rw [if_neg c2] at H; obtain ⟨c2b0, c2b1⟩ := ze c2; obtain rfl := Option.some.inj H
  go_enter Tryz.func82, Tryz.ntmps82
  go_wp2
  go_ret
  exact ⟨zR, zD⟩

mutual
def lockageref05_Trim.j1 : Nat → ByteArray → Option (ByteArray)
 | 0, _ => none
 | k + 1, x0 => lockageref05_Trim.l1 k x0
def lockageref05_Trim.l1 : Nat → ByteArray → Option (ByteArray)
 | 0, _ => none
 | k + 1, x0 => if (x0.size : Int) > 0 then (if 0 ≤ (wrap64 ((x0.size : Int) - 1)) then (if (wrap64 ((x0.size : Int) - 1)) < (x0.size : Int) then ((lockageref05_blank.f (bt x0 (wrap64 ((x0.size : Int) - 1)))).bind fun t272 => (if t272 = true then (if (wrap64 ((x0.size : Int) - 1)) ≤ (x0.size : Int) then (lockageref05_Trim.l1 k (x0.extract 0 ((wrap64 ((x0.size : Int) - 1)) : Int).toNat)) else (none)) else (some x0))) else (none)) else (none)) else (some x0)
def lockageref05_Trim.l0 : Nat → ByteArray → Option (ByteArray)
 | 0, _ => none
 | k + 1, x0 => if (x0.size : Int) > 0 then (if 0 < (x0.size : Int) then ((lockageref05_blank.f (bt x0 0)).bind fun t271 => (if t271 = true then (if 1 ≤ (x0.size : Int) then (lockageref05_Trim.l0 k (x0.extract 1 x0.size)) else (none)) else (lockageref05_Trim.j1 k x0))) else (none)) else (lockageref05_Trim.j1 k x0)
end
def lockageref05_Trim.f (k : Nat) (a0 : ByteArray) : Option (ByteArray) := lockageref05_Trim.l0 k a0
theorem lockageref05_Trim.mono_l : ∀ k, (∀ y0, LeO (lockageref05_Trim.j1 k y0) (lockageref05_Trim.j1 (k + 1) y0)) ∧ (∀ y0, LeO (lockageref05_Trim.l1 k y0) (lockageref05_Trim.l1 (k + 1) y0)) ∧ (∀ y0, LeO (lockageref05_Trim.l0 k y0) (lockageref05_Trim.l0 (k + 1) y0))
 | 0 => ⟨fun _ r h => by simp [lockageref05_Trim.j1] at h, fun _ r h => by simp [lockageref05_Trim.l1] at h, fun _ r h => by simp [lockageref05_Trim.l0] at h⟩
 | k + 1 => by
  obtain ⟨ih0, ih1, ih2⟩ := lockageref05_Trim.mono_l k
  refine ⟨?_, ?_, ?_⟩
  ·intro y0
   unfold lockageref05_Trim.j1; exact zM
  ·intro y0
   unfold lockageref05_Trim.l1; exact zM
  ·intro y0
   unfold lockageref05_Trim.l0; exact zM
theorem lockageref05_Trim.mono : ∀ a0 k, LeO (lockageref05_Trim.f k a0) (lockageref05_Trim.f (k + 1) a0) := by
 intro a0 k
 obtain ⟨ih0, ih1, ih2⟩ := lockageref05_Trim.mono_l k
 unfold lockageref05_Trim.f; exact zM
set_option maxHeartbeats 8000000 in
set_option maxRecDepth 100000 in
theorem lockageref05_Trim.calls (k : Nat) (a0 : ByteArray) (r : ByteArray) (w : World) (h : lockageref05_Trim.f k a0 = some r) :
  Calls Tryz.prog 65 #[.string a0] w fun e w' => e = .returned (.string r) ∧ Drawn0 w w' := by
 have H : (lockageref05_Trim.l0 k a0) = some r := h; clear h; have HC2 := aM H; clear H
 go_enter Tryz.func65, Tryz.ntmps65
 go_upto_block 0 with (fail)
 go_cut [0] (fun v0 wc => ∃ (kq : Nat) (x0_1 : ByteArray), v0 = .string x0_1 ∧ Aside0 (lockageref05_Trim.j1 kq x0_1 = some r) ∧ Aside0 (kq ≤ k) ∧ Drawn0 w wc)
 case first =>
  have H := HC2.out; clear HC2; have H' := aM H; clear H
  go_wp2
  go_loopg [0] k (fun kq v0 w' => ∃ (x0_1 : ByteArray), v0 = .string x0_1 ∧ Aside0 (lockageref05_Trim.l0 kq x0_1 = some r) ∧ Aside0 (kq ≤ k) ∧ Drawn0 w w')
  case atStart => exact ⟨(a0), zR, H', ⟨Nat.le_refl _⟩, zD⟩
  case round =>
   clear H'; (try clear p2); obtain ⟨x0_1, rfl, HA, HK1, ⟨m1, rfl⟩⟩ := hrel; cases gk with
   | zero => exact absurd HA.out (by simp [lockageref05_Trim.l0])
   | succ k1 =>
    have H := HA.out; clear HA; simp only [lockageref05_Trim.l0] at H; by_cases c3 : (x0_1.size : Int) > 0
    ·rw [if_pos c3] at H; have c3b0 := decide_eq_true c3; have c3b1 : decide (0 < x0_1.size) = true := decide_eq_true (by omega); clear c3
     (first | rw [c3b0] | (simp only [i64_w, i32_w]; rw [c3b0]) | skip)
     by_cases c4 : 0 < (x0_1.size : Int)
     ·rw [if_pos c4] at H; have c4b0 := decide_eq_true c4; have c4b1 : decide (0 < x0_1.size) = true := decide_eq_true (by omega); clear c4; replace H := Option.bind_eq_some_iff.mp H; obtain ⟨t271, A60, H⟩ := H; replace H : (if t271 = true then (if 1 ≤ (x0_1.size : Int) then (lockageref05_Trim.l0 k1 (x0_1.extract 1 x0_1.size)) else (none)) else (lockageref05_Trim.j1 k1 x0_1)) = some r := H; have A6 := aM A60; clear A60; by_cases c7 : t271 = true
      ·subst c7; rw [if_pos rfl] at H; by_cases c8 : 1 ≤ (x0_1.size : Int)
       ·rw [if_pos c8] at H; have c8b0 := eq_true c8; have c8b1 := decide_eq_true c8; clear c8; have H' := aM H; clear H; have p5 : 0 ≤ (0 : Int) := (by omega); have q5 : 0 < x0_1.size := (by have : (0 : Int) < (x0_1.size : Int) := of_decide_eq_true zA; omega); have hx5 : ∀ h : 0 < x0_1.size, ((x0_1[0]'h).toNat : Int) = bt x0_1 0 := bt_at x0_1 0; clear p5; have qi5 : (0 < (x0_1.size : Int)) = True := eq_true (of_decide_eq_true zA); replace q5 := eq_true q5
        go_wp2_with (first | (go_at_call 82; (with_reducible refine (lockageref05_blank.calls (bt x0_1 0) true _ A6.out).mono ?_); rintro e w' ⟨rfl, ⟨nd, rfl⟩⟩))
        go_roundg k1
        case measure => have := HK1.out; omega
        case rel => exact ⟨(x0_1.extract 1 x0_1.size), zR, H', ⟨by have := HK1.out; omega⟩, zD⟩
       ·exact zf c8 H
      ·replace c7 := Bool.eq_false_iff.mpr c7; subst c7; rw [if_neg (show ¬ (false = true) by decide)] at H; have H' := aM H; clear H; have p5 : 0 ≤ (0 : Int) := (by omega); have q5 : 0 < x0_1.size := (by have : (0 : Int) < (x0_1.size : Int) := of_decide_eq_true zA; omega); have hx5 : ∀ h : 0 < x0_1.size, ((x0_1[0]'h).toNat : Int) = bt x0_1 0 := bt_at x0_1 0; clear p5; have qi5 : (0 < (x0_1.size : Int)) = True := eq_true (of_decide_eq_true zA); replace q5 := eq_true q5
       go_wp2_with (first | (go_at_call 82; (with_reducible refine (lockageref05_blank.calls (bt x0_1 0) false _ A6.out).mono ?_); rintro e w' ⟨rfl, ⟨nd, rfl⟩⟩))
       go_meet
       case rel => exact ⟨_, (x0_1), zR, H', ⟨by have := HK1.out; first | omega | exact Nat.le_refl _⟩, zD⟩
     ·exact zf c4 H
    ·rw [if_neg c3] at H; have c3b0 := decide_eq_false c3; have c3b1 : decide (0 < x0_1.size) = false := decide_eq_false (by omega); clear c3
     (first | rw [c3b0] | (simp only [i64_w, i32_w]; rw [c3b0]) | skip)
     have H' := aM H; clear H
     go_wp2
     go_meet
     case rel => exact ⟨_, (x0_1), zR, H', ⟨by have := HK1.out; first | omega | exact Nat.le_refl _⟩, zD⟩
 case rest =>
  clear HC2; (try clear p2); (try clear c3); (try clear c3b0); (try clear c3b1); (try clear c4); (try clear c4b0); (try clear c4b1); (try clear p5); (try clear q5); (try clear hx5); (try clear qi5); (try clear c6); (try clear c7); (try clear c8); (try clear c8b0); (try clear c8b1); (try clear p2); (try clear p5); (try clear q5); obtain ⟨kq, x0_1, rfl, HA, HJ1, ⟨mc1, rfl⟩⟩ := hcut; cases kq with
  | zero => exact absurd HA.out (by simp [lockageref05_Trim.j1])
  | succ kj1 =>
   have H := HA.out; clear HA; simp only [lockageref05_Trim.j1] at H; have H' := aM H; clear H
   go_wp2
   go_loopg [0] kj1 (fun kq v0 w' => ∃ (x0_2 : ByteArray), v0 = .string x0_2 ∧ Aside0 (lockageref05_Trim.l1 kq x0_2 = some r) ∧ Aside0 (kq ≤ kj1) ∧ Drawn0 w w')
   case atStart => exact ⟨(x0_1), zR, H', ⟨Nat.le_refl _⟩, zD⟩
   case round =>
    clear H'; (try clear c1); (try clear p2); (try clear c3); (try clear c3b0); (try clear c3b1); (try clear c4); (try clear c4b0); (try clear c4b1); (try clear p5); (try clear q5); (try clear hx5); (try clear qi5); (try clear c6); (try clear c7); (try clear c8); (try clear c8b0); (try clear c8b1); (try clear p2); (try clear p5); (try clear q5); obtain ⟨x0_2, rfl, HA, HK2, ⟨m2, rfl⟩⟩ := hrel; cases gk with
    | zero => exact absurd HA.out (by simp [lockageref05_Trim.l1])
    | succ k2 =>
     have H := HA.out; clear HA; simp only [lockageref05_Trim.l1] at H; by_cases c9 : (x0_2.size : Int) > 0
     ·rw [if_pos c9] at H; have c9b0 := decide_eq_true c9; have c9b1 : decide (0 < x0_2.size) = true := decide_eq_true (by omega); clear c9; obtain ⟨ji10, hji10⟩ : ∃ j_ : Int, (wrap64 ((x0_2.size : Int) - 1)) = j_ := ⟨_, rfl⟩
      (first | rw [hji10] at H | simp only [hji10] at H)
      have hji10w : (IntKind.i64.wrap ((x0_2.size : Int) - 1)) = ji10 := (i64_w _).trans hji10; by_cases c11 : 0 ≤ (ji10)
      ·rw [if_pos c11] at H; have c11b0 := decide_eq_true c11; clear c11; by_cases c12 : (ji10) < (x0_2.size : Int)
       ·rw [if_pos c12] at H; have c12b0 := decide_eq_true c12; clear c12; replace H := Option.bind_eq_some_iff.mp H; obtain ⟨t272, A140, H⟩ := H; replace H : (if t272 = true then (if (ji10) ≤ (x0_2.size : Int) then (lockageref05_Trim.l1 k2 (x0_2.extract 0 ((ji10) : Int).toNat)) else (none)) else (some x0_2)) = some r := H; have A14 := aM A140; clear A140; by_cases c15 : t272 = true
        ·subst c15; rw [if_pos rfl] at H; have c16b0 := eq_true (of_decide_eq_true zA : 0 ≤ (ji10)); by_cases c17 : (ji10) ≤ (x0_2.size : Int)
         ·rw [if_pos c17] at H; have c17b0 := eq_true c17; have c17b1 := decide_eq_true c17; clear c17; have H' := aM H; clear H; have p13 : 0 ≤ ((ji10) : Int) := of_decide_eq_true zA; have q13 : (ji10) < (x0_2.size : Int) := of_decide_eq_true zA; have hx13 := bt_at x0_2 (ji10); replace p13 := eq_true p13; replace q13 := eq_true q13
          go_wp2_with (first | (go_at_call 82; (with_reducible refine (lockageref05_blank.calls (bt x0_2 (ji10)) true _ A14.out).mono ?_); rintro e w' ⟨rfl, ⟨nd, rfl⟩⟩))
          go_roundg k2
          case measure => have := HJ1.out; have := HK2.out; omega
          case rel => exact ⟨(x0_2.extract 0 ((ji10) : Int).toNat), (zJ hji10), H', ⟨by have := HJ1.out; have := HK2.out; omega⟩, zD⟩
         ·exact zf c17 H
        ·replace c15 := Bool.eq_false_iff.mpr c15; subst c15; rw [if_neg (show ¬ (false = true) by decide)] at H; obtain rfl := Option.some.inj H; have p13 : 0 ≤ ((ji10) : Int) := of_decide_eq_true zA; have q13 : (ji10) < (x0_2.size : Int) := of_decide_eq_true zA; have hx13 := bt_at x0_2 (ji10); replace p13 := eq_true p13; replace q13 := eq_true q13
         go_wp2_with (first | (go_at_call 82; (with_reducible refine (lockageref05_blank.calls (bt x0_2 (ji10)) false _ A14.out).mono ?_); rintro e w' ⟨rfl, ⟨nd, rfl⟩⟩))
         go_ret
         exact ⟨zJ hji10, zD⟩
       ·exact zf c12 H
      ·exact zf c11 H
     ·rw [if_neg c9] at H; have c9b0 := decide_eq_false c9; have c9b1 : decide (0 < x0_2.size) = false := decide_eq_false (by omega); clear c9; obtain rfl := Option.some.inj H
      go_wp2
      go_ret
      exact ⟨zR, zD⟩

mutual
def lockageref05_Items.l0 : Nat → ByteArray → List ByteArray → Int → Int → Option (List ByteArray)
 | 0, _, _, _, _ => none
 | k + 1, x0, x3, x4, x5 => if x5 ≤ (x0.size : Int) then (if x5 < (x0.size : Int) then (if 0 ≤ x5 then (lockageref05_Items.j1 k x0 x3 x4 x5 ((bt x0 x5) != 44)) else (none)) else (lockageref05_Items.j1 k x0 x3 x4 x5 false)) else (some x3)
def lockageref05_Items.j1 : Nat → ByteArray → List ByteArray → Int → Int → Bool → Option (List ByteArray)
 | 0, _, _, _, _, _ => none
 | k + 1, x0, x3, x4, x5, x22 => if x22 = true then (lockageref05_Items.l0 k x0 x3 x4 (wrap64 (x5 + 1))) else (if 0 ≤ x4 then (if x4 ≤ x5 then (if x5 ≤ (x0.size : Int) then ((lockageref05_Trim.f k (x0.extract (x4 : Int).toNat (x5 : Int).toNat)).bind fun t273 => ((lockageref05_Lower.f k t273).bind fun t274 => (if t274.toList = ([] : List UInt8) then (lockageref05_Items.l0 k x0 x3 (wrap64 (x5 + 1)) (wrap64 (x5 + 1))) else (if x3.length < 8796093022208 then (lockageref05_Items.l0 k x0 (x3 ++ [t274]) (wrap64 (x5 + 1)) (wrap64 (x5 + 1))) else (none))))) else (none)) else (none)) else (none))
end
def lockageref05_Items.f (k : Nat) (a0 : ByteArray) : Option (List ByteArray) := lockageref05_Items.l0 k a0 ([] : List ByteArray) 0 0
theorem lockageref05_Items.mono_l : ∀ k, (∀ y0 y1 y2 y3, LeO (lockageref05_Items.l0 k y0 y1 y2 y3) (lockageref05_Items.l0 (k + 1) y0 y1 y2 y3)) ∧ (∀ y0 y1 y2 y3 y4, LeO (lockageref05_Items.j1 k y0 y1 y2 y3 y4) (lockageref05_Items.j1 (k + 1) y0 y1 y2 y3 y4))
 | 0 => ⟨fun _ _ _ _ r h => by simp [lockageref05_Items.l0] at h, fun _ _ _ _ _ r h => by simp [lockageref05_Items.j1] at h⟩
 | k + 1 => by
  obtain ⟨ih0, ih1⟩ := lockageref05_Items.mono_l k
  refine ⟨?_, ?_⟩
  ·intro y0 y1 y2 y3
   unfold lockageref05_Items.l0; have m0 := @lockageref05_Lower.mono; have m1 := @lockageref05_Trim.mono; exact zM
  ·intro y0 y1 y2 y3 y4
   unfold lockageref05_Items.j1; have m0 := @lockageref05_Lower.mono; have m1 := @lockageref05_Trim.mono; exact zM
theorem lockageref05_Items.mono : ∀ a0 k, LeO (lockageref05_Items.f k a0) (lockageref05_Items.f (k + 1) a0) := by
 intro a0 k
 obtain ⟨ih0, ih1⟩ := lockageref05_Items.mono_l k
 unfold lockageref05_Items.f; have m0 := @lockageref05_Lower.mono; have m1 := @lockageref05_Trim.mono; exact zM
set_option maxHeartbeats 8000000 in
set_option maxRecDepth 100000 in
theorem lockageref05_Items.calls (k : Nat) (a0 : ByteArray) (r : List ByteArray) (w : World) (h : lockageref05_Items.f k a0 = some r) :
  Calls Tryz.prog 45 #[.string a0] w fun e w' => ∃ v0_ : Value, e = .returned (v0_) ∧ Kd.R Kd.string 9 w' w.heap.size (fun _ => True) v0_ r ∧ Below w.heap.size w w' := by
 have HB := aM (Below.refl w.heap.size w); have H : (lockageref05_Items.l0 k a0 ([] : List ByteArray) 0 0) = some r := h; clear h; have H' := aM H; clear H
 go_enter Tryz.func45, Tryz.ntmps45
 go_wp2
 go_loopg [3, 4, 5] k (fun kq v3 v4 v5 w' => ∃ (x3_1 : List ByteArray) (x4_1 : Int) (x5_1 : Int), v4 = .int .i64 x4_1 ∧ v5 = .int .i64 x5_1 ∧ Aside0 (lockageref05_Items.l0 kq a0 x3_1 x4_1 x5_1 = some r) ∧ Aside0 (kq ≤ k) ∧ Aside0 (Kd.R Kd.string 9 w' w.heap.size (fun _ => True) v3 x3_1) ∧ Aside0 (Below w.heap.size w w'))
 case atStart => exact ⟨(([] : List ByteArray)), (0), (0), zR, zR, H', ⟨Nat.le_refl _⟩, ⟨by first | exact Kd.R_nil _ _ _ _ _ | exact Kd.N_nil _ _ _ _ _ | exact Kd.V_nil _ _ _ _ _ | exact Kd.Q_nil _ _ _ _ _ | exact Kd.S_nil _ _ _ _ _⟩, ⟨zB⟩⟩
 case round =>
  clear H'; obtain ⟨x3_1, x4_1, x5_1, rfl, rfl, HA, HK1, HO_3, HB⟩ := hrel; cases gk with
  | zero => exact absurd HA.out (by simp [lockageref05_Items.l0])
  | succ k1 =>
   have H := HA.out; clear HA; simp only [lockageref05_Items.l0] at H; by_cases c2 : x5_1 ≤ (a0.size : Int)
   ·rw [if_pos c2] at H; have c2b0 := decide_eq_true c2; clear c2; have HC3 := aM H; clear H
    go_upto_region 6 with (fail)
    go_cut [22] (fun v22 wc => ∃ (kq : Nat) (x22_2 : Bool), v22 = .bool x22_2 ∧ Aside0 (lockageref05_Items.j1 kq a0 x3_1 x4_1 x5_1 x22_2 = some r) ∧ Aside0 (kq ≤ k1) ∧ Aside0 (Kd.R Kd.string 9 wc w.heap.size (fun _ => True) u3 x3_1) ∧ Aside0 (Below w.heap.size w wc))
    case first =>
     have H := HC3.out; clear HC3; by_cases c4 : x5_1 < (a0.size : Int)
     ·rw [if_pos c4] at H; have c4b0 := decide_eq_true c4; clear c4
      (first | rw [c4b0] | (simp only [i64_w, i32_w]; rw [c4b0]) | skip)
      by_cases c5 : 0 ≤ x5_1
      ·rw [if_pos c5] at H; have c5b0 := decide_eq_true c5; clear c5; have H' := aM H; clear H; have p6 : 0 ≤ (x5_1 : Int) := of_decide_eq_true zA; have q6 : x5_1 < (a0.size : Int) := of_decide_eq_true zA; have hx6 := bt_at a0 x5_1; replace p6 := eq_true p6; replace q6 := eq_true q6
       go_wp2
       go_meet
       case rel => exact ⟨_, (((bt a0 x5_1) != 44)), zR, H', ⟨by have := HK1.out; first | omega | exact Nat.le_refl _⟩, ⟨zO HO_3.out⟩, ⟨zB⟩⟩
      ·exact zf c5 H
     ·rw [if_neg c4] at H; have c4b0 := decide_eq_false c4; clear c4
      (first | rw [c4b0] | (simp only [i64_w, i32_w]; rw [c4b0]) | skip)
      have H' := aM H; clear H
      go_wp2
      go_meet
      case rel => exact ⟨_, (false), zR, H', ⟨by have := HK1.out; first | omega | exact Nat.le_refl _⟩, ⟨zO HO_3.out⟩, ⟨zB⟩⟩
    case rest =>
     clear HC3; (try clear c2); (try clear c2b0); (try clear p2); (try clear c4); (try clear c4b0); (try clear c5); (try clear c5b0); (try clear p6); (try clear q6); (try clear hx6); (try clear p6); (try clear q6); obtain ⟨kq, x22_2, rfl, HA, HJ2, HO_3, HB⟩ := hcut; cases kq with
     | zero => exact absurd HA.out (by simp [lockageref05_Items.j1])
     | succ kj2 =>
      have H := HA.out; clear HA; simp only [lockageref05_Items.j1] at H; by_cases c7 : x22_2 = true
      ·subst c7; rw [if_pos rfl] at H; have H' := aM H; clear H
       go_wp2
       go_roundg kj2
       case measure => have := HK1.out; have := HJ2.out; omega
       case rel => exact ⟨(x3_1), (x4_1), (wrap64 (x5_1 + 1)), zR, zR, H', ⟨by have := HK1.out; have := HJ2.out; omega⟩, ⟨zO HO_3.out⟩, ⟨zB⟩⟩
      ·replace c7 := Bool.eq_false_iff.mpr c7; subst c7; rw [if_neg (show ¬ (false = true) by decide)] at H; by_cases c8 : 0 ≤ x4_1
       ·rw [if_pos c8] at H; have c8b0 := eq_true c8; have c8b1 := decide_eq_true c8; clear c8; by_cases c9 : x4_1 ≤ x5_1
        ·rw [if_pos c9] at H; have c9b0 := eq_true c9; have c9b1 := decide_eq_true c9; clear c9; by_cases c10 : x5_1 ≤ (a0.size : Int)
         ·rw [if_pos c10] at H; have c10b0 := eq_true c10; have c10b1 := decide_eq_true c10; clear c10; obtain ⟨t273, A11, H⟩ := zc H; (try dsimp only at H); obtain ⟨t274, A12, H⟩ := zc H; (try dsimp only at H); by_cases c13 : t274.toList = ([] : List UInt8)
          ·rw [if_pos c13] at H; obtain ⟨c13b0, c13b1⟩ := zd c13; clear c13; have H' := aM H; clear H
           go_wp2_with (first | ((with_reducible refine gate_callee (f := 65) rfl ?_); refine goesL_ (some 27) rfl rfl Tryz.func65 (by kernel_rfl) rfl #[.string (a0.extract (x4_1 : Int).toNat (x5_1 : Int).toNat)] rfl zL ?_; (with_reducible refine (lockageref05_Trim.calls kj2 (a0.extract (x4_1 : Int).toNat (x5_1 : Int).toNat) t273 _ A11.out).mono ?_); rintro e w' ⟨rfl, ⟨nd, rfl⟩⟩; refine ⟨_, rfl, ?_⟩) | ((with_reducible refine gate_callee (f := 19) rfl ?_); refine goesL_ (some 28) rfl rfl Tryz.func19 (by kernel_rfl) rfl #[.string t273] rfl zL ?_; (with_reducible refine (lockageref05_Lower.calls kj2 t273 t274 _ A12.out).mono ?_); rintro e w14 ⟨rfl, hb⟩; refine ⟨_, rfl, ?_⟩; replace HO_3 := aM (Kd.R_below (zO HO_3.out) hb); replace HB := aM (below_step zB hb); clear hb))
           go_roundg kj2
           case measure => have := HK1.out; have := HJ2.out; omega
           case rel => exact ⟨(x3_1), (wrap64 (x5_1 + 1)), (wrap64 (x5_1 + 1)), zR, zR, H', ⟨by have := HK1.out; have := HJ2.out; omega⟩, ⟨zO HO_3.out⟩, ⟨zB⟩⟩
          ·rw [if_neg c13] at H; obtain ⟨c13b0, c13b1⟩ := ze c13; by_cases c15 : x3_1.length < 8796093022208
           ·rw [if_pos c15] at H; have LMc15 := aM c15; clear c15; obtain ⟨y275, hy275⟩ : ∃ y_ : List ByteArray, y_ = (x3_1 ++ [t274]) := ⟨_, rfl⟩; (replace H : (lockageref05_Items.l0 kj2 a0 y275 (wrap64 (x5_1 + 1)) (wrap64 (x5_1 + 1))) = some r := zN hy275 H); have Ny275 := aM hy275; clear hy275; have H' := aM H; clear H
            go_wp2_with (first | ((with_reducible refine gate_callee (f := 65) rfl ?_); refine goesL_ (some 27) rfl rfl Tryz.func65 (by kernel_rfl) rfl #[.string (a0.extract (x4_1 : Int).toNat (x5_1 : Int).toNat)] rfl zL ?_; (with_reducible refine (lockageref05_Trim.calls kj2 (a0.extract (x4_1 : Int).toNat (x5_1 : Int).toNat) t273 _ A11.out).mono ?_); rintro e w' ⟨rfl, ⟨nd, rfl⟩⟩; refine ⟨_, rfl, ?_⟩) | ((with_reducible refine gate_callee (f := 19) rfl ?_); refine goesL_ (some 28) rfl rfl Tryz.func19 (by kernel_rfl) rfl #[.string t273] rfl zL ?_; (with_reducible refine (lockageref05_Lower.calls kj2 t273 t274 _ A12.out).mono ?_); rintro e w16 ⟨rfl, hb⟩; refine ⟨_, rfl, ?_⟩; replace HO_3 := aM (Kd.R_below (zO HO_3.out) hb); replace HB := aM (below_step zB hb); clear hb) | ((with_reducible refine gate_builtin (b := .append) (xs := #[.tmp 31, .tmp 33]) rfl ?_); at_builtin; refine Kd.R_append Kd.string (w0 := w) w.heap.size rfl (.tmp 31) (.tmp 33) 27 9 (.string ⟨#[]⟩) 16 rfl Tryz.underlying27 info9 rfl (by decide) (by omega) u3 x3_1 t274 [.string t274] (fun _ => True) (fun _ => False) rfl rfl ?aP (fun _ hk => hk.elim) ?aF ?aO ?aB ?aS ?aL ?_; (case aP => exact rfl); (case aB => exact zB); (case aF => exact (fun _ _ => trivial)); (case aO => exact zO HO_3.out); (case aS => exact (below_size zB)); (case aL => have := LMc15.out; omega); intro v276 w17 ho hb hg hat; rw [← Ny275.out] at ho; replace HB := aM hb; have HO277 := aM ho; clear HO_3; clear ho hb hg hat))
            go_roundg kj2
            case measure => have := HK1.out; have := HJ2.out; omega
            case rel => exact ⟨(y275), (wrap64 (x5_1 + 1)), (wrap64 (x5_1 + 1)), zR, zR, H', ⟨by have := HK1.out; have := HJ2.out; omega⟩, ⟨zO HO277.out⟩, ⟨zB⟩⟩
           ·exact zf c15 H
         ·exact zf c10 H
        ·exact zf c9 H
       ·exact zf c8 H
   ·rw [if_neg c2] at H; have c2b0 := decide_eq_false c2; clear c2; obtain rfl := Option.some.inj H
    go_wp2
    go_ret
    exact ⟨_, zE, zO HO_3.out, zB⟩

mutual
def lockageref16_directs.l0 : Nat → ByteArray → List ByteArray → Int → Option (Bool)
 | 0, _, _, _ => none
 | k + 1, x1, x5, x6 => if x6 < (x5.length : Int) then (if 0 ≤ x6 then ((lockageref05_Items.f k (rdOf ByteArray.empty x5 x6)).bind fun t282 => (lockageref16_directs.l1 k x1 x5 x6 t282 0)) else (none)) else (some false)
def lockageref16_directs.l1 : Nat → ByteArray → List ByteArray → Int → List ByteArray → Int → Option (Bool)
 | 0, _, _, _, _, _ => none
 | k + 1, x1, x5, x6, x7, x8 => if x8 < (x7.length : Int) then (if 0 ≤ x8 then (if (rdOf ByteArray.empty x7 x8).toList = x1.toList then (some true) else (lockageref16_directs.l1 k x1 x5 x6 x7 (wrap64 (x8 + 1)))) else (none)) else (lockageref16_directs.l0 k x1 x5 (wrap64 (x6 + 1)))
end
def lockageref16_directs.f (k : Nat) (l0 : List (S37)) (a1 : ByteArray) : Option (Bool) := (lockageref05_Get.f k l0 (⟨#[99, 97, 99, 104, 101, 45, 99, 111, 110, 116, 114, 111, 108]⟩ : ByteArray)).bind fun t278 => (lockageref16_directs.l0 k a1 t278 0)
theorem lockageref16_directs.mono_l : ∀ k, (∀ y0 y1 y2, LeO (lockageref16_directs.l0 k y0 y1 y2) (lockageref16_directs.l0 (k + 1) y0 y1 y2)) ∧ (∀ y0 y1 y2 y3 y4, LeO (lockageref16_directs.l1 k y0 y1 y2 y3 y4) (lockageref16_directs.l1 (k + 1) y0 y1 y2 y3 y4))
 | 0 => ⟨fun _ _ _ r h => by simp [lockageref16_directs.l0] at h, fun _ _ _ _ _ r h => by simp [lockageref16_directs.l1] at h⟩
 | k + 1 => by
  obtain ⟨ih0, ih1⟩ := lockageref16_directs.mono_l k
  refine ⟨?_, ?_⟩
  ·intro y0 y1 y2
   unfold lockageref16_directs.l0; have m0 := @lockageref05_Get.mono; have m1 := @lockageref05_Items.mono; exact zM
  ·intro y0 y1 y2 y3 y4
   unfold lockageref16_directs.l1; have m0 := @lockageref05_Get.mono; have m1 := @lockageref05_Items.mono; exact zM
theorem lockageref16_directs.mono : ∀ a0 a1 k, LeO (lockageref16_directs.f k a0 a1) (lockageref16_directs.f (k + 1) a0 a1) := by
 intro a0 a1 k
 obtain ⟨ih0, ih1⟩ := lockageref16_directs.mono_l k
 unfold lockageref16_directs.f; have m0 := @lockageref05_Get.mono; have m1 := @lockageref05_Items.mono; exact zM
set_option maxHeartbeats 8000000 in
set_option maxRecDepth 100000 in
theorem lockageref16_directs.calls (k : Nat) (A0 : Option Addr) (c0 : Nat) (l0 : List (S37)) (a1 : ByteArray) (r : Bool) (w : World) (hr0 : Kd.C k37 w A0 l0.length l0) (hc0 : l0.length ≤ c0) (h : lockageref16_directs.f k l0 a1 = some r) :
  Calls Tryz.prog 35 #[.slice A0 l0.length c0, .string a1] w fun e w' => e = .returned (.bool r) ∧ Below w.heap.size w w' := by
 have HR0 := aM hr0; have HC0 := aM hc0; clear hr0 hc0; have HB := aM (Below.refl w.heap.size w); have H : ((lockageref05_Get.f k l0 (⟨#[99, 97, 99, 104, 101, 45, 99, 111, 110, 116, 114, 111, 108]⟩ : ByteArray)).bind fun t278 => (lockageref16_directs.l0 k a1 t278 0)) = some r := h; clear h; replace H := Option.bind_eq_some_iff.mp H; obtain ⟨t278, A30, H⟩ := H; replace H : (lockageref16_directs.l0 k a1 t278 0) = some r := H; have A3 := aM A30; clear A30; have H' := aM H; clear H
 go_enter Tryz.func35, Tryz.ntmps35
 go_wp2_with (first | ((with_reducible refine gate_callee (f := 21) rfl ?_); refine goesL_ (some 10) rfl rfl Tryz.func21 (by kernel_rfl) rfl #[.slice A0 l0.length c0, .string (⟨#[99, 97, 99, 104, 101, 45, 99, 111, 110, 116, 114, 111, 108]⟩ : ByteArray)] rfl zL ?_; (with_reducible refine (lockageref05_Get.calls k _ _ l0 (⟨#[99, 97, 99, 104, 101, 45, 99, 111, 110, 116, 114, 111, 108]⟩ : ByteArray) t278 _ ?side1 ?side2 A3.out).mono ?_); (case side1 => repeat (first | exact HR0.out | (with_reducible refine Kd.C_alloc ?_ _) | (with_reducible refine Kd.C_drewN ?_ _) | (with_reducible refine Kd.C_drew ?_))); (case side2 => exact HC0.out); rintro e w4 ⟨v279, rfl, ho0, hb⟩; refine ⟨_, rfl, ?_⟩; have HO280 := aM (Kd.R_lower ho0 (below_size zB)); replace HB := aM (below_step zB hb); clear hb ho0))
 go_loopg [6] k (fun kq v6 w' => ∃ (x6_1 : Int), v6 = .int .i64 x6_1 ∧ Aside0 (lockageref16_directs.l0 kq a1 t278 x6_1 = some r) ∧ Aside0 (kq ≤ k) ∧ Aside0 (Kd.R Kd.string 9 w' w.heap.size (fun _ => True) v279 t278) ∧ Aside0 (Below w.heap.size w w'))
 case atStart => exact ⟨(0), zR, H', ⟨Nat.le_refl _⟩, ⟨zO HO280.out⟩, ⟨zB⟩⟩
 case round =>
  clear H'; (try clear c2); (try clear p2); (try clear c3); obtain ⟨x6_1, rfl, HA, HK1, HO_5, HB⟩ := hrel; cases gk with
  | zero => exact absurd HA.out (by simp [lockageref16_directs.l0])
  | succ k1 =>
   have H := HA.out; clear HA; simp only [lockageref16_directs.l0] at H; by_cases c5 : x6_1 < (t278.length : Int)
   ·rw [if_pos c5] at H; have c5b0 := decide_eq_true c5; clear c5; by_cases c6 : 0 ≤ x6_1
    ·rw [if_pos c6] at H; have c6b0 := decide_eq_true c6; clear c6; replace H := Option.bind_eq_some_iff.mp H; obtain ⟨t282, A70, H⟩ := H; replace H : (lockageref16_directs.l1 k1 a1 t278 x6_1 t282 0) = some r := H; have A7 := aM A70; clear A70; have H' := aM H; clear H; obtain ⟨Ao8, co8, eo8⟩ := Kd.R_slice HO_5.out; subst eo8; have p281 : 0 ≤ (x6_1 : Int) := of_decide_eq_true zA; have q281 : x6_1 < (t278.length : Int) := of_decide_eq_true zA; obtain ⟨ad281, e281, hx281_0⟩ := Kd.at_string (Kd.R_reads' HO_5.out).2.2 x6_1 p281 q281; cases e281; replace p281 := eq_true p281; replace q281 := eq_true q281
     go_wp2_with (first | ((with_reducible refine gate_callee (f := 45) rfl ?_); refine goesL_ (some 21) rfl rfl Tryz.func45 (by kernel_rfl) rfl #[.string (rdOf ByteArray.empty t278 x6_1)] rfl zL ?_; (with_reducible refine (lockageref05_Items.calls k1 (rdOf ByteArray.empty t278 x6_1) t282 _ A7.out).mono ?_); rintro e w9 ⟨v283, rfl, ho0, hb⟩; refine ⟨_, rfl, ?_⟩; have HO284 := aM (Kd.R_lower (Kd.R_new' ho0 (Kd.R_lt (zO HO_5.out))) (below_size zB)); replace HO_5 := aM (Kd.R_elder' (zO HO_5.out) (Kd.R_base ho0) hb); replace HB := aM (below_step zB hb); clear hb ho0))
     go_loopg [8] k1 (fun kq v8 w' => ∃ (x8_2 : Int), v8 = .int .i64 x8_2 ∧ Aside0 (lockageref16_directs.l1 kq a1 t278 x6_1 t282 x8_2 = some r) ∧ Aside0 (kq ≤ k1) ∧ Aside0 (Kd.R Kd.string 9 w' w.heap.size (fun k_ => some k_ ≠ (v283 : Value).ownBlock) (.slice (some ad281) t278.length co8) t278) ∧ Aside0 (Kd.R Kd.string 9 w' w.heap.size (fun k_ => some k_ ≠ ((.slice (some ad281) t278.length co8) : Value).ownBlock) v283 t282) ∧ Aside0 (Below w.heap.size w w'))
     case atStart => exact ⟨(0), zR, H', ⟨Nat.le_refl _⟩, ⟨by (with_reducible repeat (first | apply rA | apply rN | apply rD)); exact Kd.R_mono HO_5.out (fun _ hk => hk.2)⟩, ⟨by (with_reducible repeat (first | apply rA | apply rN | apply rD)); exact Kd.R_mono HO284.out (fun _ hk => hk.2)⟩, ⟨zB⟩⟩
     case round =>
      clear H'; (try clear c2); (try clear p2); (try clear q2); (try clear hx2); (try clear c3); (try clear c4); (try clear c5); (try clear c5b0); (try clear c6); (try clear c6b0); (try clear hx281_0); (try clear p2); (try clear p281); (try clear q281); obtain ⟨x8_2, rfl, HA, HK2, HO_5, HO_7, HB⟩ := hrel; cases gk with
      | zero => exact absurd HA.out (by simp [lockageref16_directs.l1])
      | succ k2 =>
       have H := HA.out; clear HA; simp only [lockageref16_directs.l1] at H; by_cases c10 : x8_2 < (t282.length : Int)
       ·rw [if_pos c10] at H; have c10b0 := decide_eq_true c10; clear c10; by_cases c11 : 0 ≤ x8_2
        ·rw [if_pos c11] at H; have c11b0 := decide_eq_true c11; clear c11; by_cases c12 : (rdOf ByteArray.empty t282 x8_2).toList = a1.toList
         ·rw [if_pos c12] at H; obtain ⟨c12b0, c12b1⟩ := zd c12; clear c12; obtain rfl := Option.some.inj H; obtain ⟨Ao13, co13, eo13⟩ := Kd.R_slice HO_7.out; subst eo13; have p285 : 0 ≤ (x8_2 : Int) := of_decide_eq_true zA; have q285 : x8_2 < (t282.length : Int) := of_decide_eq_true zA; obtain ⟨ad285, e285, hx285_0⟩ := Kd.at_string (Kd.R_reads' HO_7.out).2.2 x8_2 p285 q285; cases e285; replace p285 := eq_true p285; replace q285 := eq_true q285
          go_wp2
          go_ret
          exact ⟨zE, zB⟩
         ·rw [if_neg c12] at H; obtain ⟨c12b0, c12b1⟩ := ze c12; have H' := aM H; clear H; obtain ⟨Ao14, co14, eo14⟩ := Kd.R_slice HO_7.out; subst eo14; have p285 : 0 ≤ (x8_2 : Int) := of_decide_eq_true zA; have q285 : x8_2 < (t282.length : Int) := of_decide_eq_true zA; obtain ⟨ad285, e285, hx285_0⟩ := Kd.at_string (Kd.R_reads' HO_7.out).2.2 x8_2 p285 q285; cases e285; replace p285 := eq_true p285; replace q285 := eq_true q285
          go_wp2
          go_roundg k2
          case measure => have := HK1.out; have := HK2.out; omega
          case rel => exact ⟨(wrap64 (x8_2 + 1)), zR, H', ⟨by have := HK1.out; have := HK2.out; omega⟩, ⟨zO HO_5.out⟩, ⟨zO HO_7.out⟩, ⟨zB⟩⟩
        ·exact zf c11 H
       ·rw [if_neg c10] at H; have c10b0 := decide_eq_false c10; clear c10; have H' := aM H; clear H; obtain ⟨Ao15, co15, eo15⟩ := Kd.R_slice HO_7.out; subst eo15
        go_wp2
        go_roundg k2
        case measure => have := HK1.out; have := HK2.out; omega
        case rel => exact ⟨(wrap64 (x6_1 + 1)), zR, H', ⟨by have := HK1.out; have := HK2.out; omega⟩, ⟨by (with_reducible repeat (first | apply rA | apply rN | apply rD)); exact Kd.R_mono HO_5.out (fun _ hk => trivial)⟩, ⟨zB⟩⟩
    ·exact zf c6 H
   ·rw [if_neg c5] at H; have c5b0 := decide_eq_false c5; clear c5; obtain rfl := Option.some.inj H; obtain ⟨Ao16, co16, eo16⟩ := Kd.R_slice HO_5.out; subst eo16
    go_wp2
    go_ret
    exact ⟨zE, zB⟩

end Go.Proofs.YthmallhjbhphgaaGreatDoor.P
