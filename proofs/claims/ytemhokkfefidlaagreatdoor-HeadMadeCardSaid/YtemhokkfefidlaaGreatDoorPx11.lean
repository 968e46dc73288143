/- Printed by a program of the session out of the translation: plain Lean functions, each with the contract that the Go function computes it. -/
import Derived.Test.YtemhokkfefidlaaGreatDoorHZ
import Derived.Test.YtemhokkfefidlaaGreatDoorPx0
import Derived.Test.YtemhokkfefidlaaGreatDoorPx8
import Derived.Test.YtemhokkfefidlaaGreatDoorPx9
import Derived.Test.YtemhokkfefidlaaGreatDoorPx10
namespace Go.Proofs.YtemhokkfefidlaaGreatDoor.P
open Go.RowKit Go.Proofs.YtemhokkfefidlaaGreatDoorW.PrintWords Go.Proofs.YtemhokkfefidlaaGreatDoorW.PrintLast Go.Proofs.YtemhokkfefidlaaGreatDoorW.PrintMore
attribute [local go_sem] max2_int min2_int max_two min_two max_three min_three max_four min_four   -- for this text's walks alone
set_option linter.unusedVariables false
set_option linter.unusedSimpArgs false

mutual
def lockageref03_Parse.j0 : Nat → ByteArray → Int → Bool → Option (Int × Int)
 | 0, _, _, _ => none
 | k + 1, x0, x1, x22 => if x22 = true then (some (0, 1)) else (lockageref03_Parse.l0 k x0 x1 0)
def lockageref03_Parse.l0 : Nat → ByteArray → Int → Int → Option (Int × Int)
 | 0, _, _, _ => none
 | k + 1, x0, x1, x6 => if x6 < (x0.size : Int) then (if 0 ≤ x6 then ((lockageref03_value.f k (bt x0 x6) x1).bind fun t274 => (if t274 < 0 then (some (0, 1)) else (lockageref03_Parse.l0 k x0 x1 (wrap64 (x6 + 1))))) else (none)) else (lockageref03_Parse.l1 k x0 x1 0 0)
def lockageref03_Parse.l1 : Nat → ByteArray → Int → Int → Int → Option (Int × Int)
 | 0, _, _, _, _ => none
 | k + 1, x0, x1, x7, x8 => if x8 < (x0.size : Int) then ((lockageref03_Mul.f k x7 x1).bind fun bt275 => (if 0 ≤ x8 then ((lockageref03_value.f k (bt x0 x8) x1).bind fun t277 => ((lockageref03_Add.f k bt275.1 t277).bind fun bt278 => (if bt275.2 = 0 then (if bt278.2 = 0 then (lockageref03_Parse.l1 k x0 x1 bt278.1 (wrap64 (x8 + 1))) else (some (0, 3))) else (some (0, 3))))) else (none))) else (some (x7, 0))
end
def lockageref03_Parse.f (k : Nat) (a0 : ByteArray) (a1 : Int) : Option (Int × Int) := if a0.toList = ([] : List UInt8) then (lockageref03_Parse.j0 k a0 a1 true) else (if a1 = 10 then (lockageref03_Parse.j0 k a0 a1 false) else (lockageref03_Parse.j0 k a0 a1 (a1 != 16)))
theorem lockageref03_Parse.mono_l : ∀ k, (∀ y0 y1 y2, LeO (lockageref03_Parse.j0 k y0 y1 y2) (lockageref03_Parse.j0 (k + 1) y0 y1 y2)) ∧ (∀ y0 y1 y2, LeO (lockageref03_Parse.l0 k y0 y1 y2) (lockageref03_Parse.l0 (k + 1) y0 y1 y2)) ∧ (∀ y0 y1 y2 y3, LeO (lockageref03_Parse.l1 k y0 y1 y2 y3) (lockageref03_Parse.l1 (k + 1) y0 y1 y2 y3))
 | 0 => ⟨fun _ _ _ r h => by simp [lockageref03_Parse.j0] at h, fun _ _ _ r h => by simp [lockageref03_Parse.l0] at h, fun _ _ _ _ r h => by simp [lockageref03_Parse.l1] at h⟩
 | k + 1 => by
  obtain ⟨ih0, ih1, ih2⟩ := lockageref03_Parse.mono_l k
  refine ⟨?_, ?_, ?_⟩
  ·intro y0 y1 y2
   unfold lockageref03_Parse.j0
   repeat' first
   | (with_reducible exact ih0 _ _ _)
   | (with_reducible exact ih1 _ _ _)
   | (with_reducible exact ih2 _ _ _ _)
   | (with_reducible exact lockageref03_Add.mono _ _ _)
   | (with_reducible exact lockageref03_Mul.mono _ _ _)
   | (with_reducible exact lockageref03_value.mono _ _ _)
   | (with_reducible exact LeO.refl _)
   | (with_reducible exact LeO.none _)
   | (with_reducible refine LeO.ite ?_ ?_)
   | (with_reducible refine LeO.bind ?_ (fun _ => ?_))
   | exact ih0 _ _ _
   | exact ih1 _ _ _
   | exact ih2 _ _ _ _
   | exact lockageref03_Add.mono _ _ _
   | exact lockageref03_Mul.mono _ _ _
   | exact lockageref03_value.mono _ _ _
   | exact LeO.none _
   | refine LeO.ite ?_ ?_
   | refine LeO.bind ?_ (fun _ => ?_)
  ·intro y0 y1 y2
   unfold lockageref03_Parse.l0
   repeat' first
   | (with_reducible exact ih0 _ _ _)
   | (with_reducible exact ih1 _ _ _)
   | (with_reducible exact ih2 _ _ _ _)
   | (with_reducible exact lockageref03_Add.mono _ _ _)
   | (with_reducible exact lockageref03_Mul.mono _ _ _)
   | (with_reducible exact lockageref03_value.mono _ _ _)
   | (with_reducible exact LeO.refl _)
   | (with_reducible exact LeO.none _)
   | (with_reducible refine LeO.ite ?_ ?_)
   | (with_reducible refine LeO.bind ?_ (fun _ => ?_))
   | exact ih0 _ _ _
   | exact ih1 _ _ _
   | exact ih2 _ _ _ _
   | exact lockageref03_Add.mono _ _ _
   | exact lockageref03_Mul.mono _ _ _
   | exact lockageref03_value.mono _ _ _
   | exact LeO.none _
   | refine LeO.ite ?_ ?_
   | refine LeO.bind ?_ (fun _ => ?_)
  ·intro y0 y1 y2 y3
   unfold lockageref03_Parse.l1
   repeat' first
   | (with_reducible exact ih0 _ _ _)
   | (with_reducible exact ih1 _ _ _)
   | (with_reducible exact ih2 _ _ _ _)
   | (with_reducible exact lockageref03_Add.mono _ _ _)
   | (with_reducible exact lockageref03_Mul.mono _ _ _)
   | (with_reducible exact lockageref03_value.mono _ _ _)
   | (with_reducible exact LeO.refl _)
   | (with_reducible exact LeO.none _)
   | (with_reducible refine LeO.ite ?_ ?_)
   | (with_reducible refine LeO.bind ?_ (fun _ => ?_))
   | exact ih0 _ _ _
   | exact ih1 _ _ _
   | exact ih2 _ _ _ _
   | exact lockageref03_Add.mono _ _ _
   | exact lockageref03_Mul.mono _ _ _
   | exact lockageref03_value.mono _ _ _
   | exact LeO.none _
   | refine LeO.ite ?_ ?_
   | refine LeO.bind ?_ (fun _ => ?_)
theorem lockageref03_Parse.mono : ∀ a0 a1 k, LeO (lockageref03_Parse.f k a0 a1) (lockageref03_Parse.f (k + 1) a0 a1) := by
 intro a0 a1 k
 obtain ⟨ih0, ih1, ih2⟩ := lockageref03_Parse.mono_l k
 unfold lockageref03_Parse.f
 repeat' first
   | (with_reducible exact ih0 _ _ _)
   | (with_reducible exact ih1 _ _ _)
   | (with_reducible exact ih2 _ _ _ _)
   | (with_reducible exact lockageref03_Add.mono _ _ _)
   | (with_reducible exact lockageref03_Mul.mono _ _ _)
   | (with_reducible exact lockageref03_value.mono _ _ _)
   | (with_reducible exact LeO.refl _)
   | (with_reducible exact LeO.none _)
   | (with_reducible refine LeO.ite ?_ ?_)
   | (with_reducible refine LeO.bind ?_ (fun _ => ?_))
   | exact ih0 _ _ _
   | exact ih1 _ _ _
   | exact ih2 _ _ _ _
   | exact lockageref03_Add.mono _ _ _
   | exact lockageref03_Mul.mono _ _ _
   | exact lockageref03_value.mono _ _ _
   | exact LeO.none _
   | refine LeO.ite ?_ ?_
   | refine LeO.bind ?_ (fun _ => ?_)
set_option maxHeartbeats 8000000 in
set_option maxRecDepth 100000 in
theorem lockageref03_Parse.calls (k : Nat) (a0 : ByteArray) (a1 : Int) (r1 : Int) (r2 : Int) (w : World) (h : lockageref03_Parse.f k a0 a1 = some (r1, r2)) :
  Calls Tryz.prog 70 #[.string a0, .int .i64 a1] w fun e w' => e = .returned (.tuple #[.int .i64 r1, .int .i64 r2]) ∧ Drawn0 w w' := by
 have H : (if a0.toList = ([] : List UInt8) then (lockageref03_Parse.j0 k a0 a1 true) else (if a1 = 10 then (lockageref03_Parse.j0 k a0 a1 false) else (lockageref03_Parse.j0 k a0 a1 (a1 != 16)))) = some (r1, r2) := h; clear h; have HC3 := aM H; clear H
 go_enter Tryz.func70, Tryz.ntmps70
 go_upto_region 1 with (fail)
 go_cut [22] (fun v22 wc => ∃ (kq : Nat) (x22_2 : Bool), v22 = .bool x22_2 ∧ Aside0 (lockageref03_Parse.j0 kq a0 a1 x22_2 = some (r1, r2)) ∧ Aside0 (kq ≤ k) ∧ Drawn0 w wc)
 case first =>
  have H := HC3.out; clear HC3; by_cases c4 : a0.toList = ([] : List UInt8)
  ·rw [if_pos c4] at H; have c4b0 : (a0.toList == ([] : List UInt8)) = true := beq_iff_eq.mpr c4; have c4b1 : (a0.toList != ([] : List UInt8)) = false := bne_eq_false_iff_eq.mpr c4; clear c4
   (first | rw [c4b0] | (simp only [i64_w, i32_w]; rw [c4b0]) | skip)
   have H' := aM H; clear H
   go_wp2
   go_meet
   case rel => exact ⟨_, (true), (by first | rfl | (simp; done) | (simp [*]; done)), H', ⟨by first | omega | exact Nat.le_refl _⟩, by repeat (first | exact Drawn0.refl _ | apply Drawn0.step)⟩
  ·rw [if_neg c4] at H; have c4b0 : (a0.toList == ([] : List UInt8)) = false := beq_eq_false_iff_ne.mpr c4; have c4b1 : (a0.toList != ([] : List UInt8)) = true := bne_iff_ne.mpr c4
   (first | rw [c4b0] | (simp only [i64_w, i32_w]; rw [c4b0]) | skip)
   by_cases c5 : a1 = 10
   ·rw [if_pos c5] at H; have c5b0 : (a1 == 10) = true := beq_iff_eq.mpr c5; have c5b1 : (a1 != 10) = false := bne_eq_false_iff_eq.mpr c5; clear c5; have H' := aM H; clear H
    go_wp2
    go_meet
    case rel => exact ⟨_, (false), (by first | rfl | (simp; done) | (simp [*]; done)), H', ⟨by first | omega | exact Nat.le_refl _⟩, by repeat (first | exact Drawn0.refl _ | apply Drawn0.step)⟩
   ·rw [if_neg c5] at H; have c5b0 : (a1 == 10) = false := beq_eq_false_iff_ne.mpr c5; have c5b1 : (a1 != 10) = true := bne_iff_ne.mpr c5; have H' := aM H; clear H
    go_wp2
    go_meet
    case rel => exact ⟨_, ((a1 != 16)), (by first | rfl | (simp; done) | (simp [*]; done)), H', ⟨by first | omega | exact Nat.le_refl _⟩, by repeat (first | exact Drawn0.refl _ | apply Drawn0.step)⟩
 case rest =>
  clear HC3; (try clear p2); (try clear c4); (try clear c4b0); (try clear c4b1); (try clear c5); (try clear c5b0); (try clear c5b1); obtain ⟨kq, x22_2, rfl, HA, HJ2, ⟨mc2, rfl⟩⟩ := hcut; cases kq with
  | zero => exact absurd HA.out (by simp [lockageref03_Parse.j0])
  | succ kj2 =>
   have H := HA.out; clear HA; simp only [lockageref03_Parse.j0] at H; by_cases c6 : x22_2 = true
   ·subst c6; (have H1 : (some (0, 1)) = some (r1, r2) := by rw [if_pos rfl] at H; exact H); clear H; have H := H1; clear H1; simp only [Option.some.injEq, Prod.mk.injEq] at H; obtain ⟨rfl, rfl⟩ := H
    go_wp2
    go_ret2
    exact ⟨by first | rfl | (simp; done) | (simp [*]; done), by repeat (first | exact Drawn0.refl _ | apply Drawn0.step)⟩
   ·replace c6 := Bool.eq_false_iff.mpr c6; subst c6; (have H1 : (lockageref03_Parse.l0 kj2 a0 a1 0) = some (r1, r2) := by rw [if_neg (show ¬ (false = true) by decide)] at H; exact H); clear H; have H := H1; clear H1; have H' := aM H; clear H
    go_wp2
    go_loopg [6] kj2 (fun kq v6 w' => ∃ (x6_2 : Int), v6 = .int .i64 x6_2 ∧ Aside0 (lockageref03_Parse.l0 kq a0 a1 x6_2 = some (r1, r2)) ∧ Aside0 (kq ≤ kj2) ∧ Drawn0 w w')
    case atStart => exact ⟨(0), (by first | rfl | (simp; done) | (simp [*]; done)), H', ⟨Nat.le_refl _⟩, by repeat (first | exact Drawn0.refl _ | apply Drawn0.step)⟩
    case round =>
     clear H'; (try clear c2); (try clear p2); (try clear c4); (try clear c4b0); (try clear c4b1); (try clear c5); (try clear c5b0); (try clear c5b1); (try clear c6); (try clear p2); obtain ⟨x6_2, rfl, HA, HK2, ⟨m2, rfl⟩⟩ := hrel; cases gk with
     | zero => exact absurd HA.out (by simp [lockageref03_Parse.l0])
     | succ k2 =>
      have H := HA.out; clear HA; simp only [lockageref03_Parse.l0] at H; by_cases c7 : x6_2 < (a0.size : Int)
      ·rw [if_pos c7] at H; have c7b0 : decide (x6_2 < (a0.size : Int)) = true := decide_eq_true c7; clear c7; by_cases c8 : 0 ≤ x6_2
       ·rw [if_pos c8] at H; have c8b0 : decide (0 ≤ x6_2) = true := decide_eq_true c8; clear c8; replace H := Option.bind_eq_some_iff.mp H; obtain ⟨t274, A100, H⟩ := H; replace H : (if t274 < 0 then (some (0, 1)) else (lockageref03_Parse.l0 k2 a0 a1 (wrap64 (x6_2 + 1)))) = some (r1, r2) := H; have A10 := aM A100; clear A100; by_cases c11 : t274 < 0
        ·rw [if_pos c11] at H; have c11b0 : decide (t274 < 0) = true := decide_eq_true c11; clear c11; simp only [Option.some.injEq, Prod.mk.injEq] at H; obtain ⟨rfl, rfl⟩ := H; have p9 : 0 ≤ (x6_2 : Int) := of_decide_eq_true (by first | (with_reducible assumption) | assumption); have q9 : x6_2 < (a0.size : Int) := of_decide_eq_true (by first | (with_reducible assumption) | assumption); have hx9 := bt_at a0 x6_2; replace p9 := eq_true p9; replace q9 := eq_true q9
         go_wp2_with (first | ((with_reducible refine gate_callee (f := 85) rfl ?_); refine goesL_ (some 33) rfl rfl Tryz.func85 (by kernel_rfl) rfl #[.int .u8 (bt a0 x6_2), .int .i64 a1] rfl (by (try simp only [List.map_toArray, List.map_cons, List.map_nil]); first | done | rfl | (simp only [List.length_drop, List.length_take]; rfl)) ?_; (with_reducible refine (lockageref03_value.calls k2 (bt a0 x6_2) a1 t274 _ A10.out).mono ?_); rintro e w' ⟨rfl, ⟨nd, rfl⟩⟩; refine ⟨_, rfl, ?_⟩))
         go_ret2
         exact ⟨by first | rfl | (simp; done) | (simp [*]; done), by repeat (first | exact Drawn0.refl _ | apply Drawn0.step)⟩
        ·rw [if_neg c11] at H; have c11b0 : decide (t274 < 0) = false := decide_eq_false c11; clear c11; have H' := aM H; clear H; have p9 : 0 ≤ (x6_2 : Int) := of_decide_eq_true (by first | (with_reducible assumption) | assumption); have q9 : x6_2 < (a0.size : Int) := of_decide_eq_true (by first | (with_reducible assumption) | assumption); have hx9 := bt_at a0 x6_2; replace p9 := eq_true p9; replace q9 := eq_true q9
         go_wp2_with (first | ((with_reducible refine gate_callee (f := 85) rfl ?_); refine goesL_ (some 33) rfl rfl Tryz.func85 (by kernel_rfl) rfl #[.int .u8 (bt a0 x6_2), .int .i64 a1] rfl (by (try simp only [List.map_toArray, List.map_cons, List.map_nil]); first | done | rfl | (simp only [List.length_drop, List.length_take]; rfl)) ?_; (with_reducible refine (lockageref03_value.calls k2 (bt a0 x6_2) a1 t274 _ A10.out).mono ?_); rintro e w' ⟨rfl, ⟨nd, rfl⟩⟩; refine ⟨_, rfl, ?_⟩))
         go_roundg k2
         case measure => have := HJ2.out; have := HK2.out; omega
         case rel => exact ⟨(wrap64 (x6_2 + 1)), (by first | rfl | (simp; done) | (simp [*]; done)), H', ⟨by have := HJ2.out; have := HK2.out; omega⟩, by repeat (first | exact Drawn0.refl _ | apply Drawn0.step)⟩
       ·rw [if_neg c8] at H; exact absurd H (by simp)
      ·rw [if_neg c7] at H; have c7b0 : decide (x6_2 < (a0.size : Int)) = false := decide_eq_false c7; clear c7; have H' := aM H; clear H
       go_wp2
       go_loopg [7, 8] k2 (fun kq v7 v8 w' => ∃ (x7_3 : Int) (x8_3 : Int), v7 = .int .i64 x7_3 ∧ v8 = .int .i64 x8_3 ∧ Aside0 (lockageref03_Parse.l1 kq a0 a1 x7_3 x8_3 = some (r1, r2)) ∧ Aside0 (kq ≤ k2) ∧ Drawn0 w w')
       case atStart => exact ⟨(0), (0), (by first | rfl | (simp; done) | (simp [*]; done)), (by first | rfl | (simp; done) | (simp [*]; done)), H', ⟨Nat.le_refl _⟩, by repeat (first | exact Drawn0.refl _ | apply Drawn0.step)⟩
       case round =>
        clear H'; (try clear c1); (try clear c2); (try clear p2); (try clear c4); (try clear c4b0); (try clear c4b1); (try clear c5); (try clear c5b0); (try clear c5b1); (try clear c6); (try clear p6); (try clear c7); (try clear c7b0); (try clear c8); (try clear c8b0); (try clear p9); (try clear q9); (try clear hx9); (try clear c11); (try clear c11b0); (try clear p2); (try clear p9); (try clear q9); obtain ⟨x7_3, x8_3, rfl, rfl, HA, HK3, ⟨m3, rfl⟩⟩ := hrel; cases gk with
        | zero => exact absurd HA.out (by simp [lockageref03_Parse.l1])
        | succ k3 =>
         have H := HA.out; clear HA; simp only [lockageref03_Parse.l1] at H; by_cases c12 : x8_3 < (a0.size : Int)
         ·rw [if_pos c12] at H; have c12b0 : decide (x8_3 < (a0.size : Int)) = true := decide_eq_true c12; clear c12; replace H := Option.bind_eq_some_iff.mp H; obtain ⟨⟨t275, t276⟩, A130, H⟩ := H; (try dsimp only at H); have A13 := aM A130; clear A130; by_cases c14 : 0 ≤ x8_3
          ·rw [if_pos c14] at H; have c14b0 : decide (0 ≤ x8_3) = true := decide_eq_true c14; clear c14; replace H := Option.bind_eq_some_iff.mp H; obtain ⟨t277, A160, H⟩ := H; (try dsimp only at H); have A16 := aM A160; clear A160; replace H := Option.bind_eq_some_iff.mp H; obtain ⟨⟨t278, t279⟩, A170, H⟩ := H; replace H : (if t276 = 0 then (if t279 = 0 then (lockageref03_Parse.l1 k3 a0 a1 t278 (wrap64 (x8_3 + 1))) else (some (0, 3))) else (some (0, 3))) = some (r1, r2) := H; have A17 := aM A170; clear A170; by_cases c18 : t276 = 0
           ·rw [if_pos c18] at H; have c18b0 : (t276 == 0) = true := beq_iff_eq.mpr c18; have c18b1 : (t276 != 0) = false := bne_eq_false_iff_eq.mpr c18; clear c18; by_cases c19 : t279 = 0
            ·rw [if_pos c19] at H; have c19b0 : (t279 == 0) = true := beq_iff_eq.mpr c19; have c19b1 : (t279 != 0) = false := bne_eq_false_iff_eq.mpr c19; clear c19; have H' := aM H; clear H
             go_wp2_with (first | ((with_reducible refine gate_callee (f := 86) rfl ?_); refine goesL_ (some 44) rfl rfl Tryz.func86 (by kernel_rfl) rfl #[.int .i64 x7_3, .int .i64 a1] rfl (by (try simp only [List.map_toArray, List.map_cons, List.map_nil]); first | done | rfl | (simp only [List.length_drop, List.length_take]; rfl)) ?_; (with_reducible refine (lockageref03_Mul.calls k3 x7_3 a1 t275 t276 _ A13.out).mono ?_); rintro e w' ⟨rfl, ⟨nd, rfl⟩⟩; refine ⟨_, rfl, ?_⟩; have p15 : 0 ≤ (x8_3 : Int) := of_decide_eq_true (by first | (with_reducible assumption) | assumption); have q15 : x8_3 < (a0.size : Int) := of_decide_eq_true (by first | (with_reducible assumption) | assumption); have hx15 := bt_at a0 x8_3; replace p15 := eq_true p15; replace q15 := eq_true q15) | ((with_reducible refine gate_callee (f := 85) rfl ?_); refine goesL_ (some 53) rfl rfl Tryz.func85 (by kernel_rfl) rfl #[.int .u8 (bt a0 x8_3), .int .i64 a1] rfl (by (try simp only [List.map_toArray, List.map_cons, List.map_nil]); first | done | rfl | (simp only [List.length_drop, List.length_take]; rfl)) ?_; (with_reducible refine (lockageref03_value.calls k3 (bt a0 x8_3) a1 t277 _ A16.out).mono ?_); rintro e w' ⟨rfl, ⟨nd, rfl⟩⟩; refine ⟨_, rfl, ?_⟩) | ((with_reducible refine gate_callee (f := 87) rfl ?_); refine goesL_ (some 54) rfl rfl Tryz.func87 (by kernel_rfl) rfl #[.int .i64 t275, .int .i64 t277] rfl (by (try simp only [List.map_toArray, List.map_cons, List.map_nil]); first | done | rfl | (simp only [List.length_drop, List.length_take]; rfl)) ?_; (with_reducible refine (lockageref03_Add.calls k3 t275 t277 t278 t279 _ A17.out).mono ?_); rintro e w' ⟨rfl, ⟨nd, rfl⟩⟩; refine ⟨_, rfl, ?_⟩))
             go_roundg k3
             case measure => have := HJ2.out; have := HK2.out; have := HK3.out; omega
             case rel => exact ⟨(t278), (wrap64 (x8_3 + 1)), (by first | rfl | (simp; done) | (simp [*]; done)), (by first | rfl | (simp; done) | (simp [*]; done)), H', ⟨by have := HJ2.out; have := HK2.out; have := HK3.out; omega⟩, by repeat (first | exact Drawn0.refl _ | apply Drawn0.step)⟩
            ·rw [if_neg c19] at H; have c19b0 : (t279 == 0) = false := beq_eq_false_iff_ne.mpr c19; have c19b1 : (t279 != 0) = true := bne_iff_ne.mpr c19; simp only [Option.some.injEq, Prod.mk.injEq] at H; obtain ⟨rfl, rfl⟩ := H
             go_wp2_with (first | ((with_reducible refine gate_callee (f := 86) rfl ?_); refine goesL_ (some 44) rfl rfl Tryz.func86 (by kernel_rfl) rfl #[.int .i64 x7_3, .int .i64 a1] rfl (by (try simp only [List.map_toArray, List.map_cons, List.map_nil]); first | done | rfl | (simp only [List.length_drop, List.length_take]; rfl)) ?_; (with_reducible refine (lockageref03_Mul.calls k3 x7_3 a1 t275 t276 _ A13.out).mono ?_); rintro e w' ⟨rfl, ⟨nd, rfl⟩⟩; refine ⟨_, rfl, ?_⟩; have p15 : 0 ≤ (x8_3 : Int) := of_decide_eq_true (by first | (with_reducible assumption) | assumption); have q15 : x8_3 < (a0.size : Int) := of_decide_eq_true (by first | (with_reducible assumption) | assumption); have hx15 := bt_at a0 x8_3; replace p15 := eq_true p15; replace q15 := eq_true q15) | ((with_reducible refine gate_callee (f := 85) rfl ?_); refine goesL_ (some 53) rfl rfl Tryz.func85 (by kernel_rfl) rfl #[.int .u8 (bt a0 x8_3), .int .i64 a1] rfl (by (try simp only [List.map_toArray, List.map_cons, List.map_nil]); first | done | rfl | (simp only [List.length_drop, List.length_take]; rfl)) ?_; (with_reducible refine (lockageref03_value.calls k3 (bt a0 x8_3) a1 t277 _ A16.out).mono ?_); rintro e w' ⟨rfl, ⟨nd, rfl⟩⟩; refine ⟨_, rfl, ?_⟩) | ((with_reducible refine gate_callee (f := 87) rfl ?_); refine goesL_ (some 54) rfl rfl Tryz.func87 (by kernel_rfl) rfl #[.int .i64 t275, .int .i64 t277] rfl (by (try simp only [List.map_toArray, List.map_cons, List.map_nil]); first | done | rfl | (simp only [List.length_drop, List.length_take]; rfl)) ?_; (with_reducible refine (lockageref03_Add.calls k3 t275 t277 t278 t279 _ A17.out).mono ?_); rintro e w' ⟨rfl, ⟨nd, rfl⟩⟩; refine ⟨_, rfl, ?_⟩))
             go_ret2
             exact ⟨by first | rfl | (simp; done) | (simp [*]; done), by repeat (first | exact Drawn0.refl _ | apply Drawn0.step)⟩
           ·rw [if_neg c18] at H; have c18b0 : (t276 == 0) = false := beq_eq_false_iff_ne.mpr c18; have c18b1 : (t276 != 0) = true := bne_iff_ne.mpr c18; simp only [Option.some.injEq, Prod.mk.injEq] at H; obtain ⟨rfl, rfl⟩ := H
            go_wp2_with (first | ((with_reducible refine gate_callee (f := 86) rfl ?_); refine goesL_ (some 44) rfl rfl Tryz.func86 (by kernel_rfl) rfl #[.int .i64 x7_3, .int .i64 a1] rfl (by (try simp only [List.map_toArray, List.map_cons, List.map_nil]); first | done | rfl | (simp only [List.length_drop, List.length_take]; rfl)) ?_; (with_reducible refine (lockageref03_Mul.calls k3 x7_3 a1 t275 t276 _ A13.out).mono ?_); rintro e w' ⟨rfl, ⟨nd, rfl⟩⟩; refine ⟨_, rfl, ?_⟩; have p15 : 0 ≤ (x8_3 : Int) := of_decide_eq_true (by first | (with_reducible assumption) | assumption); have q15 : x8_3 < (a0.size : Int) := of_decide_eq_true (by first | (with_reducible assumption) | assumption); have hx15 := bt_at a0 x8_3; replace p15 := eq_true p15; replace q15 := eq_true q15) | ((with_reducible refine gate_callee (f := 85) rfl ?_); refine goesL_ (some 53) rfl rfl Tryz.func85 (by kernel_rfl) rfl #[.int .u8 (bt a0 x8_3), .int .i64 a1] rfl (by (try simp only [List.map_toArray, List.map_cons, List.map_nil]); first | done | rfl | (simp only [List.length_drop, List.length_take]; rfl)) ?_; (with_reducible refine (lockageref03_value.calls k3 (bt a0 x8_3) a1 t277 _ A16.out).mono ?_); rintro e w' ⟨rfl, ⟨nd, rfl⟩⟩; refine ⟨_, rfl, ?_⟩) | ((with_reducible refine gate_callee (f := 87) rfl ?_); refine goesL_ (some 54) rfl rfl Tryz.func87 (by kernel_rfl) rfl #[.int .i64 t275, .int .i64 t277] rfl (by (try simp only [List.map_toArray, List.map_cons, List.map_nil]); first | done | rfl | (simp only [List.length_drop, List.length_take]; rfl)) ?_; (with_reducible refine (lockageref03_Add.calls k3 t275 t277 t278 t279 _ A17.out).mono ?_); rintro e w' ⟨rfl, ⟨nd, rfl⟩⟩; refine ⟨_, rfl, ?_⟩))
            go_ret2
            exact ⟨by first | rfl | (simp; done) | (simp [*]; done), by repeat (first | exact Drawn0.refl _ | apply Drawn0.step)⟩
          ·rw [if_neg c14] at H; exact absurd H (by simp)
         ·rw [if_neg c12] at H; have c12b0 : decide (x8_3 < (a0.size : Int)) = false := decide_eq_false c12; clear c12; simp only [Option.some.injEq, Prod.mk.injEq] at H; obtain ⟨rfl, rfl⟩ := H
          go_wp2
          go_ret2
          exact ⟨by first | rfl | (simp; done) | (simp [*]; done), by repeat (first | exact Drawn0.refl _ | apply Drawn0.step)⟩

mutual
def lockageref06_answer.j0 : Nat → ByteArray → ByteArray → ByteArray → Bool → Option (ByteArray × ByteArray × Int × ByteArray × Int × (List (S37)) × Int)
 | 0, _, _, _, _ => none
 | k + 1, x4, x7, x8, x59 => if x59 = true then (some ((⟨#[]⟩ : ByteArray), (⟨#[]⟩ : ByteArray), 0, (⟨#[]⟩ : ByteArray), 0, ([] : List (S37)), 20)) else ((lockageref06_version.f k x4).bind fun bt291 => ((lockageref03_Parse.f k x7 10).bind fun bt293 => (if bt291.2 = 0 then (if bt293.1 < 100 then (lockageref06_answer.j1 k x8 bt291.1 bt291.2 bt293.1 true) else (lockageref06_answer.j1 k x8 bt291.1 bt291.2 bt293.1 (decide (bt293.1 > 599)))) else (lockageref06_answer.j1 k x8 bt291.1 bt291.2 bt293.1 false))))
def lockageref06_answer.j1 : Nat → ByteArray → Int → Int → Int → Bool → Option (ByteArray × ByteArray × Int × ByteArray × Int × (List (S37)) × Int)
 | 0, _, _, _, _, _ => none
 | k + 1, x8, x10, x11, x12, x80 => if x80 = true then (some ((⟨#[]⟩ : ByteArray), (⟨#[]⟩ : ByteArray), x12, x8, x10, ([] : List (S37)), 20)) else (some ((⟨#[]⟩ : ByteArray), (⟨#[]⟩ : ByteArray), x12, x8, x10, ([] : List (S37)), x11))
end
def lockageref06_answer.f (k : Nat) (a0 : ByteArray) : Option (ByteArray × ByteArray × Int × ByteArray × Int × (List (S37)) × Int) := (lockageref06_cut.f k a0).bind fun bt281 => ((lockageref06_cut.f k bt281.2.1).bind fun bt284 => (if bt281.2.2 = true then (if bt284.2.2 = true then (if (bt284.1.size : Int) = 3 then (if 0 < (bt284.1.size : Int) then ((lockageref06_digit.f (bt bt284.1 0)).bind fun t287 => (if t287 = true then (if 1 < (bt284.1.size : Int) then ((lockageref06_digit.f (bt bt284.1 1)).bind fun t288 => (if t288 = true then (if 2 < (bt284.1.size : Int) then ((lockageref06_digit.f (bt bt284.1 2)).bind fun t289 => (if t289 = true then ((lockageref06_reason.f k bt284.2.1).bind fun t290 => (lockageref06_answer.j0 k bt281.1 bt284.1 bt284.2.1 (!t290))) else (lockageref06_answer.j0 k bt281.1 bt284.1 bt284.2.1 true))) else (none)) else (lockageref06_answer.j0 k bt281.1 bt284.1 bt284.2.1 true))) else (none)) else (lockageref06_answer.j0 k bt281.1 bt284.1 bt284.2.1 true))) else (none)) else (lockageref06_answer.j0 k bt281.1 bt284.1 bt284.2.1 true)) else (lockageref06_answer.j0 k bt281.1 bt284.1 bt284.2.1 true)) else (lockageref06_answer.j0 k bt281.1 bt284.1 bt284.2.1 true)))
theorem lockageref06_answer.mono_l : ∀ k, (∀ y0 y1 y2 y3, LeO (lockageref06_answer.j0 k y0 y1 y2 y3) (lockageref06_answer.j0 (k + 1) y0 y1 y2 y3)) ∧ (∀ y0 y1 y2 y3 y4, LeO (lockageref06_answer.j1 k y0 y1 y2 y3 y4) (lockageref06_answer.j1 (k + 1) y0 y1 y2 y3 y4))
 | 0 => ⟨fun _ _ _ _ r h => by simp [lockageref06_answer.j0] at h, fun _ _ _ _ _ r h => by simp [lockageref06_answer.j1] at h⟩
 | k + 1 => by
  obtain ⟨ih0, ih1⟩ := lockageref06_answer.mono_l k
  refine ⟨?_, ?_⟩
  ·intro y0 y1 y2 y3
   unfold lockageref06_answer.j0
   repeat' first
   | (with_reducible exact ih0 _ _ _ _)
   | (with_reducible exact ih1 _ _ _ _ _)
   | (with_reducible exact lockageref03_Parse.mono _ _ _)
   | (with_reducible exact lockageref06_cut.mono _ _)
   | (with_reducible exact lockageref06_reason.mono _ _)
   | (with_reducible exact lockageref06_version.mono _ _)
   | (with_reducible exact LeO.refl _)
   | (with_reducible exact LeO.none _)
   | (with_reducible refine LeO.ite ?_ ?_)
   | (with_reducible refine LeO.bind ?_ (fun _ => ?_))
   | exact ih0 _ _ _ _
   | exact ih1 _ _ _ _ _
   | exact lockageref03_Parse.mono _ _ _
   | exact lockageref06_cut.mono _ _
   | exact lockageref06_reason.mono _ _
   | exact lockageref06_version.mono _ _
   | exact LeO.none _
   | refine LeO.ite ?_ ?_
   | refine LeO.bind ?_ (fun _ => ?_)
  ·intro y0 y1 y2 y3 y4
   unfold lockageref06_answer.j1
   repeat' first
   | (with_reducible exact ih0 _ _ _ _)
   | (with_reducible exact ih1 _ _ _ _ _)
   | (with_reducible exact lockageref03_Parse.mono _ _ _)
   | (with_reducible exact lockageref06_cut.mono _ _)
   | (with_reducible exact lockageref06_reason.mono _ _)
   | (with_reducible exact lockageref06_version.mono _ _)
   | (with_reducible exact LeO.refl _)
   | (with_reducible exact LeO.none _)
   | (with_reducible refine LeO.ite ?_ ?_)
   | (with_reducible refine LeO.bind ?_ (fun _ => ?_))
   | exact ih0 _ _ _ _
   | exact ih1 _ _ _ _ _
   | exact lockageref03_Parse.mono _ _ _
   | exact lockageref06_cut.mono _ _
   | exact lockageref06_reason.mono _ _
   | exact lockageref06_version.mono _ _
   | exact LeO.none _
   | refine LeO.ite ?_ ?_
   | refine LeO.bind ?_ (fun _ => ?_)
theorem lockageref06_answer.mono : ∀ a0 k, LeO (lockageref06_answer.f k a0) (lockageref06_answer.f (k + 1) a0) := by
 intro a0 k
 obtain ⟨ih0, ih1⟩ := lockageref06_answer.mono_l k
 unfold lockageref06_answer.f
 repeat' first
   | (with_reducible exact ih0 _ _ _ _)
   | (with_reducible exact ih1 _ _ _ _ _)
   | (with_reducible exact lockageref03_Parse.mono _ _ _)
   | (with_reducible exact lockageref06_cut.mono _ _)
   | (with_reducible exact lockageref06_reason.mono _ _)
   | (with_reducible exact lockageref06_version.mono _ _)
   | (with_reducible exact LeO.refl _)
   | (with_reducible exact LeO.none _)
   | (with_reducible refine LeO.ite ?_ ?_)
   | (with_reducible refine LeO.bind ?_ (fun _ => ?_))
   | exact ih0 _ _ _ _
   | exact ih1 _ _ _ _ _
   | exact lockageref03_Parse.mono _ _ _
   | exact lockageref06_cut.mono _ _
   | exact lockageref06_reason.mono _ _
   | exact lockageref06_version.mono _ _
   | exact LeO.none _
   | refine LeO.ite ?_ ?_
   | refine LeO.bind ?_ (fun _ => ?_)
set_option maxHeartbeats 8000000 in
set_option maxRecDepth 100000 in
theorem lockageref06_answer.calls (k : Nat) (a0 : ByteArray) (r1 : ByteArray) (r2 : ByteArray) (r3 : Int) (r4 : ByteArray) (r5 : Int) (r6 : List (S37)) (r7 : Int) (w : World) (h : lockageref06_answer.f k a0 = some (r1, r2, r3, r4, r5, r6, r7)) :
  Calls Tryz.prog 40 #[.string a0] w fun e w' => ∃ v5_ : Value, e = .returned (.tuple #[.agg #[.string r1, .string r2, .int .i64 r3, .string r4, .int .i64 r5, v5_], .int .i64 r7]) ∧ Kd.R k37 37 w' w.heap.size (fun _ => True) v5_ r6 ∧ Below w.heap.size w w' := by
 have hu30 := Tryz.underlying30; have HB := aM (Below.refl w.heap.size w); have H := h; unfold lockageref06_answer.f at H; clear h; replace H := Option.bind_eq_some_iff.mp H; obtain ⟨⟨t281, t282, t283⟩, A20, H⟩ := H; (try dsimp only at H); have A2 := aM A20; clear A20; replace H := Option.bind_eq_some_iff.mp H; obtain ⟨⟨t284, t285, t286⟩, A30, H⟩ := H; (try dsimp only at H); have A3 := aM A30; clear A30; have HC4 := aM H; clear H
 go_enter Tryz.func40, Tryz.ntmps40
 go_upto_region 3 with (first | ((with_reducible refine gate_dst (N := 2) rfl ?_); (try (refine gate_guard (by rfl) ?_; dsimp only)); refine box_event ?hg (N := 2) ?hd (cs := #[.string (⟨#[]⟩ : ByteArray), .string (⟨#[]⟩ : ByteArray), .int .i64 0, .string (⟨#[]⟩ : ByteArray), .int .i64 0, .slice none 0 0]) (t := 30) ?hr ?_; (case hd => rfl); (case hg => rfl); (case hr => first | (go_simp; done) | (go_simp; rfl)); intro gb280 hg w5 hbox hb; have n0_ := aM (below_step (by repeat (first | (with_reducible first | exact HB.out | apply lA | apply lN | apply lD) | exact HB.out)) hb); have n1_ := aM (hbox); have n2_ := aM ((by rw [hg]; exact (below_size (by repeat (first | (with_reducible first | exact HB.out | apply lA | apply lN | apply lD) | exact HB.out))) : w.heap.size ≤ gb280)); have n3_ := n2_; clear HB; have HB := n0_; have BK280 := n1_; have GW280 := n2_; have GE280 := n3_; clear n0_ n1_ n2_ n3_; clear hb hbox hg) | ((with_reducible refine gate_callee (f := 67) rfl ?_); refine goesL_ (some 16) rfl rfl Tryz.func67 (by kernel_rfl) rfl #[.string a0] rfl (by (try simp only [List.map_toArray, List.map_cons, List.map_nil]); first | done | rfl | (simp only [List.length_drop, List.length_take]; rfl)) ?_; (with_reducible refine (lockageref06_cut.calls k a0 t281 t282 t283 _ A2.out).mono ?_); rintro e w' ⟨rfl, ⟨nd, rfl⟩⟩; refine ⟨_, rfl, ?_⟩) | ((with_reducible refine gate_callee (f := 67) rfl ?_); refine goesL_ (some 22) rfl rfl Tryz.func67 (by kernel_rfl) rfl #[.string t282] rfl (by (try simp only [List.map_toArray, List.map_cons, List.map_nil]); first | done | rfl | (simp only [List.length_drop, List.length_take]; rfl)) ?_; (with_reducible refine (lockageref06_cut.calls k t282 t284 t285 t286 _ A3.out).mono ?_); rintro e w' ⟨rfl, ⟨nd, rfl⟩⟩; refine ⟨_, rfl, ?_⟩))
 (try simp only [Act.put, List.setIfInBounds_toArray, List.set_cons_zero, List.set_cons_succ])
 go_cut [59] (fun v59 wc => ∃ (kq : Nat) (x59_3 : Bool), v59 = .bool x59_3 ∧ Aside0 (lockageref06_answer.j0 kq t281 t284 t285 x59_3 = some (r1, r2, r3, r4, r5, r6, r7)) ∧ Aside0 (kq ≤ k) ∧ Aside0 (wc.heap[gb280]? = some (.cells #[.string (⟨#[]⟩ : ByteArray), .string (⟨#[]⟩ : ByteArray), .int .i64 0, .string (⟨#[]⟩ : ByteArray), .int .i64 0, (.slice none 0 0)] 30 (0, 0))) ∧ Aside0 (Below w.heap.size w wc))
 case first =>
  have H := HC4.out; clear HC4; by_cases c6 : t283 = true
  ·subst c6; (have H1 : (if t286 = true then (if (t284.size : Int) = 3 then (if 0 < (t284.size : Int) then ((lockageref06_digit.f (bt t284 0)).bind fun t287 => (if t287 = true then (if 1 < (t284.size : Int) then ((lockageref06_digit.f (bt t284 1)).bind fun t288 => (if t288 = true then (if 2 < (t284.size : Int) then ((lockageref06_digit.f (bt t284 2)).bind fun t289 => (if t289 = true then ((lockageref06_reason.f k t285).bind fun t290 => (lockageref06_answer.j0 k t281 t284 t285 (!t290))) else (lockageref06_answer.j0 k t281 t284 t285 true))) else (none)) else (lockageref06_answer.j0 k t281 t284 t285 true))) else (none)) else (lockageref06_answer.j0 k t281 t284 t285 true))) else (none)) else (lockageref06_answer.j0 k t281 t284 t285 true)) else (lockageref06_answer.j0 k t281 t284 t285 true)) = some (r1, r2, r3, r4, r5, r6, r7) := by rw [if_pos rfl] at H; exact H); clear H; have H := H1; clear H1; by_cases c7 : t286 = true
   ·subst c7; (have H1 : (if (t284.size : Int) = 3 then (if 0 < (t284.size : Int) then ((lockageref06_digit.f (bt t284 0)).bind fun t287 => (if t287 = true then (if 1 < (t284.size : Int) then ((lockageref06_digit.f (bt t284 1)).bind fun t288 => (if t288 = true then (if 2 < (t284.size : Int) then ((lockageref06_digit.f (bt t284 2)).bind fun t289 => (if t289 = true then ((lockageref06_reason.f k t285).bind fun t290 => (lockageref06_answer.j0 k t281 t284 t285 (!t290))) else (lockageref06_answer.j0 k t281 t284 t285 true))) else (none)) else (lockageref06_answer.j0 k t281 t284 t285 true))) else (none)) else (lockageref06_answer.j0 k t281 t284 t285 true))) else (none)) else (lockageref06_answer.j0 k t281 t284 t285 true)) = some (r1, r2, r3, r4, r5, r6, r7) := by rw [if_pos rfl] at H; exact H); clear H; have H := H1; clear H1; by_cases c8 : (t284.size : Int) = 3
    ·rw [if_pos c8] at H; have c8b0 : ((t284.size : Int) == 3) = true := beq_iff_eq.mpr c8; have c8b1 : ((t284.size : Int) != 3) = false := bne_eq_false_iff_eq.mpr c8; clear c8
     (first | rw [c8b0] | (simp only [i64_w, i32_w]; rw [c8b0]) | skip)
     by_cases c9 : 0 < (t284.size : Int)
     ·rw [if_pos c9] at H; have c9b0 : decide (0 < (t284.size : Int)) = true := decide_eq_true c9; have c9b1 : decide (0 < t284.size) = true := decide_eq_true (by omega); clear c9; replace H := Option.bind_eq_some_iff.mp H; obtain ⟨t287, A110, H⟩ := H; (try dsimp only at H); have A11 := aM A110; clear A110; by_cases c12 : t287 = true
      ·subst c12; (have H1 : (if 1 < (t284.size : Int) then ((lockageref06_digit.f (bt t284 1)).bind fun t288 => (if t288 = true then (if 2 < (t284.size : Int) then ((lockageref06_digit.f (bt t284 2)).bind fun t289 => (if t289 = true then ((lockageref06_reason.f k t285).bind fun t290 => (lockageref06_answer.j0 k t281 t284 t285 (!t290))) else (lockageref06_answer.j0 k t281 t284 t285 true))) else (none)) else (lockageref06_answer.j0 k t281 t284 t285 true))) else (none)) = some (r1, r2, r3, r4, r5, r6, r7) := by rw [if_pos rfl] at H; exact H); clear H; have H := H1; clear H1; by_cases c13 : 1 < (t284.size : Int)
       ·rw [if_pos c13] at H; have c13b0 : decide (1 < (t284.size : Int)) = true := decide_eq_true c13; have c13b1 : decide (1 < t284.size) = true := decide_eq_true (by omega); clear c13; replace H := Option.bind_eq_some_iff.mp H; obtain ⟨t288, A150, H⟩ := H; (try dsimp only at H); have A15 := aM A150; clear A150; by_cases c16 : t288 = true
        ·subst c16; (have H1 : (if 2 < (t284.size : Int) then ((lockageref06_digit.f (bt t284 2)).bind fun t289 => (if t289 = true then ((lockageref06_reason.f k t285).bind fun t290 => (lockageref06_answer.j0 k t281 t284 t285 (!t290))) else (lockageref06_answer.j0 k t281 t284 t285 true))) else (none)) = some (r1, r2, r3, r4, r5, r6, r7) := by rw [if_pos rfl] at H; exact H); clear H; have H := H1; clear H1; by_cases c17 : 2 < (t284.size : Int)
         ·rw [if_pos c17] at H; have c17b0 : decide (2 < (t284.size : Int)) = true := decide_eq_true c17; have c17b1 : decide (2 < t284.size) = true := decide_eq_true (by omega); clear c17; replace H := Option.bind_eq_some_iff.mp H; obtain ⟨t289, A190, H⟩ := H; (try dsimp only at H); have A19 := aM A190; clear A190; by_cases c20 : t289 = true
          ·subst c20; (have H1 : ((lockageref06_reason.f k t285).bind fun t290 => (lockageref06_answer.j0 k t281 t284 t285 (!t290))) = some (r1, r2, r3, r4, r5, r6, r7) := by rw [if_pos rfl] at H; exact H); clear H; have H := H1; clear H1; replace H := Option.bind_eq_some_iff.mp H; obtain ⟨t290, A210, H⟩ := H; replace H : (lockageref06_answer.j0 k t281 t284 t285 (!t290)) = some (r1, r2, r3, r4, r5, r6, r7) := H; have A21 := aM A210; clear A210; have H' := aM H; clear H; have p10 : 0 ≤ (0 : Int) := (by omega); have q10 : 0 < t284.size := (by have : (0 : Int) < (t284.size : Int) := of_decide_eq_true (by first | (with_reducible assumption) | assumption); omega); have hx10 : ∀ h : 0 < t284.size, ((t284[0]'h).toNat : Int) = bt t284 0 := bt_at t284 0; clear p10; have qi10 : (0 < (t284.size : Int)) = True := eq_true (of_decide_eq_true (by first | (with_reducible assumption) | assumption)); replace q10 := eq_true q10
           go_wp2_with (first | (go_at_call 69; (with_reducible refine (lockageref06_digit.calls (bt t284 0) true _ A11.out).mono ?_); rintro e w' ⟨rfl, ⟨nd, rfl⟩⟩; have p14 : 0 ≤ (1 : Int) := (by omega); have q14 : 1 < t284.size := (by have : (1 : Int) < (t284.size : Int) := of_decide_eq_true (by first | (with_reducible assumption) | assumption); omega); have hx14 : ∀ h : 1 < t284.size, ((t284[1]'h).toNat : Int) = bt t284 1 := bt_at t284 1; clear p14; have qi14 : (1 < (t284.size : Int)) = True := eq_true (of_decide_eq_true (by first | (with_reducible assumption) | assumption)); replace q14 := eq_true q14) | (go_at_call 69; (with_reducible refine (lockageref06_digit.calls (bt t284 1) true _ A15.out).mono ?_); rintro e w' ⟨rfl, ⟨nd, rfl⟩⟩; have p18 : 0 ≤ (2 : Int) := (by omega); have q18 : 2 < t284.size := (by have : (2 : Int) < (t284.size : Int) := of_decide_eq_true (by first | (with_reducible assumption) | assumption); omega); have hx18 : ∀ h : 2 < t284.size, ((t284[2]'h).toNat : Int) = bt t284 2 := bt_at t284 2; clear p18; have qi18 : (2 < (t284.size : Int)) = True := eq_true (of_decide_eq_true (by first | (with_reducible assumption) | assumption)); replace q18 := eq_true q18) | (go_at_call 69; (with_reducible refine (lockageref06_digit.calls (bt t284 2) true _ A19.out).mono ?_); rintro e w' ⟨rfl, ⟨nd, rfl⟩⟩) | (go_at_call 44; (with_reducible refine (lockageref06_reason.calls k t285 t290 _ A21.out).mono ?_); rintro e w' ⟨rfl, ⟨nd, rfl⟩⟩))
           go_meet
           case rel => exact ⟨_, (!t290), (by first | rfl | (simp; done) | (simp [*]; done)), H', ⟨by first | omega | exact Nat.le_refl _⟩, ⟨by (with_reducible repeat (first | refine bN ?_ _ | refine bD ?_ | refine bA ?_ _)); exact BK280.out⟩, ⟨by repeat (first | (with_reducible first | exact HB.out | apply lA | apply lN | apply lD | refine below_set ?_ GE280.out) | exact HB.out)⟩⟩
          ·replace c20 := Bool.eq_false_iff.mpr c20; subst c20; (have H1 : (lockageref06_answer.j0 k t281 t284 t285 true) = some (r1, r2, r3, r4, r5, r6, r7) := by rw [if_neg (show ¬ (false = true) by decide)] at H; exact H); clear H; have H := H1; clear H1; have H' := aM H; clear H; have p10 : 0 ≤ (0 : Int) := (by omega); have q10 : 0 < t284.size := (by have : (0 : Int) < (t284.size : Int) := of_decide_eq_true (by first | (with_reducible assumption) | assumption); omega); have hx10 : ∀ h : 0 < t284.size, ((t284[0]'h).toNat : Int) = bt t284 0 := bt_at t284 0; clear p10; have qi10 : (0 < (t284.size : Int)) = True := eq_true (of_decide_eq_true (by first | (with_reducible assumption) | assumption)); replace q10 := eq_true q10
           go_wp2_with (first | (go_at_call 69; (with_reducible refine (lockageref06_digit.calls (bt t284 0) true _ A11.out).mono ?_); rintro e w' ⟨rfl, ⟨nd, rfl⟩⟩; have p14 : 0 ≤ (1 : Int) := (by omega); have q14 : 1 < t284.size := (by have : (1 : Int) < (t284.size : Int) := of_decide_eq_true (by first | (with_reducible assumption) | assumption); omega); have hx14 : ∀ h : 1 < t284.size, ((t284[1]'h).toNat : Int) = bt t284 1 := bt_at t284 1; clear p14; have qi14 : (1 < (t284.size : Int)) = True := eq_true (of_decide_eq_true (by first | (with_reducible assumption) | assumption)); replace q14 := eq_true q14) | (go_at_call 69; (with_reducible refine (lockageref06_digit.calls (bt t284 1) true _ A15.out).mono ?_); rintro e w' ⟨rfl, ⟨nd, rfl⟩⟩; have p18 : 0 ≤ (2 : Int) := (by omega); have q18 : 2 < t284.size := (by have : (2 : Int) < (t284.size : Int) := of_decide_eq_true (by first | (with_reducible assumption) | assumption); omega); have hx18 : ∀ h : 2 < t284.size, ((t284[2]'h).toNat : Int) = bt t284 2 := bt_at t284 2; clear p18; have qi18 : (2 < (t284.size : Int)) = True := eq_true (of_decide_eq_true (by first | (with_reducible assumption) | assumption)); replace q18 := eq_true q18) | (go_at_call 69; (with_reducible refine (lockageref06_digit.calls (bt t284 2) false _ A19.out).mono ?_); rintro e w' ⟨rfl, ⟨nd, rfl⟩⟩))
           go_meet
           case rel => exact ⟨_, (true), (by first | rfl | (simp; done) | (simp [*]; done)), H', ⟨by first | omega | exact Nat.le_refl _⟩, ⟨by (with_reducible repeat (first | refine bN ?_ _ | refine bD ?_ | refine bA ?_ _)); exact BK280.out⟩, ⟨by repeat (first | (with_reducible first | exact HB.out | apply lA | apply lN | apply lD | refine below_set ?_ GE280.out) | exact HB.out)⟩⟩
         ·rw [if_neg c17] at H; exact absurd H (by simp)
        ·replace c16 := Bool.eq_false_iff.mpr c16; subst c16; (have H1 : (lockageref06_answer.j0 k t281 t284 t285 true) = some (r1, r2, r3, r4, r5, r6, r7) := by rw [if_neg (show ¬ (false = true) by decide)] at H; exact H); clear H; have H := H1; clear H1; have H' := aM H; clear H; have p10 : 0 ≤ (0 : Int) := (by omega); have q10 : 0 < t284.size := (by have : (0 : Int) < (t284.size : Int) := of_decide_eq_true (by first | (with_reducible assumption) | assumption); omega); have hx10 : ∀ h : 0 < t284.size, ((t284[0]'h).toNat : Int) = bt t284 0 := bt_at t284 0; clear p10; have qi10 : (0 < (t284.size : Int)) = True := eq_true (of_decide_eq_true (by first | (with_reducible assumption) | assumption)); replace q10 := eq_true q10
         go_wp2_with (first | (go_at_call 69; (with_reducible refine (lockageref06_digit.calls (bt t284 0) true _ A11.out).mono ?_); rintro e w' ⟨rfl, ⟨nd, rfl⟩⟩; have p14 : 0 ≤ (1 : Int) := (by omega); have q14 : 1 < t284.size := (by have : (1 : Int) < (t284.size : Int) := of_decide_eq_true (by first | (with_reducible assumption) | assumption); omega); have hx14 : ∀ h : 1 < t284.size, ((t284[1]'h).toNat : Int) = bt t284 1 := bt_at t284 1; clear p14; have qi14 : (1 < (t284.size : Int)) = True := eq_true (of_decide_eq_true (by first | (with_reducible assumption) | assumption)); replace q14 := eq_true q14) | (go_at_call 69; (with_reducible refine (lockageref06_digit.calls (bt t284 1) false _ A15.out).mono ?_); rintro e w' ⟨rfl, ⟨nd, rfl⟩⟩))
         go_meet
         case rel => exact ⟨_, (true), (by first | rfl | (simp; done) | (simp [*]; done)), H', ⟨by first | omega | exact Nat.le_refl _⟩, ⟨by (with_reducible repeat (first | refine bN ?_ _ | refine bD ?_ | refine bA ?_ _)); exact BK280.out⟩, ⟨by repeat (first | (with_reducible first | exact HB.out | apply lA | apply lN | apply lD | refine below_set ?_ GE280.out) | exact HB.out)⟩⟩
       ·rw [if_neg c13] at H; exact absurd H (by simp)
      ·replace c12 := Bool.eq_false_iff.mpr c12; subst c12; (have H1 : (lockageref06_answer.j0 k t281 t284 t285 true) = some (r1, r2, r3, r4, r5, r6, r7) := by rw [if_neg (show ¬ (false = true) by decide)] at H; exact H); clear H; have H := H1; clear H1; have H' := aM H; clear H; have p10 : 0 ≤ (0 : Int) := (by omega); have q10 : 0 < t284.size := (by have : (0 : Int) < (t284.size : Int) := of_decide_eq_true (by first | (with_reducible assumption) | assumption); omega); have hx10 : ∀ h : 0 < t284.size, ((t284[0]'h).toNat : Int) = bt t284 0 := bt_at t284 0; clear p10; have qi10 : (0 < (t284.size : Int)) = True := eq_true (of_decide_eq_true (by first | (with_reducible assumption) | assumption)); replace q10 := eq_true q10
       go_wp2_with (first | (go_at_call 69; (with_reducible refine (lockageref06_digit.calls (bt t284 0) false _ A11.out).mono ?_); rintro e w' ⟨rfl, ⟨nd, rfl⟩⟩))
       go_meet
       case rel => exact ⟨_, (true), (by first | rfl | (simp; done) | (simp [*]; done)), H', ⟨by first | omega | exact Nat.le_refl _⟩, ⟨by (with_reducible repeat (first | refine bN ?_ _ | refine bD ?_ | refine bA ?_ _)); exact BK280.out⟩, ⟨by repeat (first | (with_reducible first | exact HB.out | apply lA | apply lN | apply lD | refine below_set ?_ GE280.out) | exact HB.out)⟩⟩
     ·rw [if_neg c9] at H; exact absurd H (by simp)
    ·rw [if_neg c8] at H; have c8b0 : ((t284.size : Int) == 3) = false := beq_eq_false_iff_ne.mpr c8; have c8b1 : ((t284.size : Int) != 3) = true := bne_iff_ne.mpr c8
     (first | rw [c8b0] | (simp only [i64_w, i32_w]; rw [c8b0]) | skip)
     have H' := aM H; clear H
     go_wp2
     go_meet
     case rel => exact ⟨_, (true), (by first | rfl | (simp; done) | (simp [*]; done)), H', ⟨by first | omega | exact Nat.le_refl _⟩, ⟨by (with_reducible repeat (first | refine bN ?_ _ | refine bD ?_ | refine bA ?_ _)); exact BK280.out⟩, ⟨by repeat (first | (with_reducible first | exact HB.out | apply lA | apply lN | apply lD | refine below_set ?_ GE280.out) | exact HB.out)⟩⟩
   ·replace c7 := Bool.eq_false_iff.mpr c7; subst c7; (have H1 : (lockageref06_answer.j0 k t281 t284 t285 true) = some (r1, r2, r3, r4, r5, r6, r7) := by rw [if_neg (show ¬ (false = true) by decide)] at H; exact H); clear H; have H := H1; clear H1; have H' := aM H; clear H
    go_wp2
    go_meet
    case rel => exact ⟨_, (true), (by first | rfl | (simp; done) | (simp [*]; done)), H', ⟨by first | omega | exact Nat.le_refl _⟩, ⟨by (with_reducible repeat (first | refine bN ?_ _ | refine bD ?_ | refine bA ?_ _)); exact BK280.out⟩, ⟨by repeat (first | (with_reducible first | exact HB.out | apply lA | apply lN | apply lD | refine below_set ?_ GE280.out) | exact HB.out)⟩⟩
  ·replace c6 := Bool.eq_false_iff.mpr c6; subst c6; (have H1 : (lockageref06_answer.j0 k t281 t284 t285 true) = some (r1, r2, r3, r4, r5, r6, r7) := by rw [if_neg (show ¬ (false = true) by decide)] at H; exact H); clear H; have H := H1; clear H1; have H' := aM H; clear H
   go_wp2
   go_meet
   case rel => exact ⟨_, (true), (by first | rfl | (simp; done) | (simp [*]; done)), H', ⟨by first | omega | exact Nat.le_refl _⟩, ⟨by (with_reducible repeat (first | refine bN ?_ _ | refine bD ?_ | refine bA ?_ _)); exact BK280.out⟩, ⟨by repeat (first | (with_reducible first | exact HB.out | apply lA | apply lN | apply lD | refine below_set ?_ GE280.out) | exact HB.out)⟩⟩
 case rest =>
  clear HC4; (try clear c1); (try clear p1); (try clear q1); (try clear hx1); (try clear qi1); (try clear c2); (try clear p2); (try clear c4); (try clear c6); (try clear c7); (try clear c8); (try clear c8b0); (try clear c8b1); (try clear c9); (try clear c9b0); (try clear c9b1); (try clear p10); (try clear q10); (try clear hx10); (try clear qi10); (try clear c12); (try clear c13); (try clear c13b0); (try clear c13b1); (try clear p14); (try clear q14); (try clear hx14); (try clear qi14); (try clear c16); (try clear c17); (try clear c17b0); (try clear c17b1); (try clear p18); (try clear q18); (try clear hx18); (try clear qi18); (try clear c20); (try clear p10); (try clear p14); (try clear p18); (try clear q10); (try clear q14); (try clear q18); obtain ⟨kq, x59_3, rfl, HA, HJ3, BK280, HB⟩ := hcut; cases kq with
  | zero => exact absurd HA.out (by simp [lockageref06_answer.j0])
  | succ kj3 =>
   have H := HA.out; clear HA; simp only [lockageref06_answer.j0] at H; by_cases c22 : x59_3 = true
   ·subst c22; (have H1 : (some ((⟨#[]⟩ : ByteArray), (⟨#[]⟩ : ByteArray), 0, (⟨#[]⟩ : ByteArray), 0, ([] : List (S37)), 20)) = some (r1, r2, r3, r4, r5, r6, r7) := by rw [if_pos rfl] at H; exact H); clear H; have H := H1; clear H1; simp only [Option.some.injEq, Prod.mk.injEq] at H; obtain ⟨rfl, rfl, rfl, rfl, rfl, rfl, rfl⟩ := H; obtain ⟨hcz23_0, hcz23_1, hcz23_2, hcz23_3, hcz23_4, hcz23_5, hfz23_0, hfz23_1, hfz23_2, hfz23_3, hfz23_4, hfz23_5⟩ := cz6 BK280.out
    go_wp2
    refine bodyPost_ret (results_ct rfl _ _ gb280 30 #[.string (⟨#[]⟩ : ByteArray), .string (⟨#[]⟩ : ByteArray), .int .i64 0, .string (⟨#[]⟩ : ByteArray), .int .i64 0, .slice none 0 0] (0, 0) _ rfl (by (repeat (first | (with_reducible first | refine bN ?_ _ | refine bD ?_ | refine bA ?_ _ | apply p6_5 | apply p6_4 | apply p6_3 | apply p6_2 | apply p6_1 | apply p6_0))); exact BK280.out) Tryz.underlying30 rfl (by kernel_rfl)) rfl ?_
    exact ⟨_, by first | rfl | (simp [errW_none, errW_some] <;> rfl) | (simp [*, errW_none, errW_some] <;> rfl), by first | exact Kd.R_nil _ _ _ _ _ | exact Kd.N_nil _ _ _ _ _ | exact Kd.V_nil _ _ _ _ _ | exact Kd.Q_nil _ _ _ _ _ | exact Kd.S_nil _ _ _ _ _, by repeat (first | (with_reducible first | exact HB.out | apply lA | apply lN | apply lD | refine below_set ?_ GE280.out) | exact HB.out)⟩
   ·replace c22 := Bool.eq_false_iff.mpr c22; subst c22; (have H1 : ((lockageref06_version.f kj3 t281).bind fun bt291 => ((lockageref03_Parse.f kj3 t284 10).bind fun bt293 => (if bt291.2 = 0 then (if bt293.1 < 100 then (lockageref06_answer.j1 kj3 t285 bt291.1 bt291.2 bt293.1 true) else (lockageref06_answer.j1 kj3 t285 bt291.1 bt291.2 bt293.1 (decide (bt293.1 > 599)))) else (lockageref06_answer.j1 kj3 t285 bt291.1 bt291.2 bt293.1 false)))) = some (r1, r2, r3, r4, r5, r6, r7) := by rw [if_neg (show ¬ (false = true) by decide)] at H; exact H); clear H; have H := H1; clear H1; replace H := Option.bind_eq_some_iff.mp H; obtain ⟨⟨t291, t292⟩, A240, H⟩ := H; (try dsimp only at H); have A24 := aM A240; clear A240; replace H := Option.bind_eq_some_iff.mp H; obtain ⟨⟨t293, t294⟩, A250, H⟩ := H; (try dsimp only at H); have A25 := aM A250; clear A250; have HC26 := aM H; clear H
    go_upto_region 7 with (first | ((with_reducible refine gate_callee (f := 68) rfl ?_); refine goesL_ (some 63) rfl rfl Tryz.func68 (by kernel_rfl) rfl #[.string t281] rfl (by (try simp only [List.map_toArray, List.map_cons, List.map_nil]); first | done | rfl | (simp only [List.length_drop, List.length_take]; rfl)) ?_; (with_reducible refine (lockageref06_version.calls kj3 t281 t291 t292 _ A24.out).mono ?_); rintro e w' ⟨rfl, ⟨nd, rfl⟩⟩; refine ⟨_, rfl, ?_⟩) | ((with_reducible refine gate_callee (f := 70) rfl ?_); refine goesL_ (some 68) rfl rfl Tryz.func70 (by kernel_rfl) rfl #[.string t284, .int .i64 10] rfl (by (try simp only [List.map_toArray, List.map_cons, List.map_nil]); first | done | rfl | (simp only [List.length_drop, List.length_take]; rfl)) ?_; (with_reducible refine (lockageref03_Parse.calls kj3 t284 10 t293 t294 _ A25.out).mono ?_); rintro e w' ⟨rfl, ⟨nd, rfl⟩⟩; refine ⟨_, rfl, ?_⟩))
    (try simp only [Act.put, List.setIfInBounds_toArray, List.set_cons_zero, List.set_cons_succ])
    go_cut [80] (fun v80 wc => ∃ (kq : Nat) (x80_25 : Bool), v80 = .bool x80_25 ∧ Aside0 (lockageref06_answer.j1 kq t285 t291 t292 t293 x80_25 = some (r1, r2, r3, r4, r5, r6, r7)) ∧ Aside0 (kq ≤ kj3) ∧ Aside0 (wc.heap[gb280]? = some (.cells #[.string (⟨#[]⟩ : ByteArray), .string (⟨#[]⟩ : ByteArray), .int .i64 0, .string (⟨#[]⟩ : ByteArray), .int .i64 0, (.slice none 0 0)] 30 (0, 0))) ∧ Aside0 (Below w.heap.size w wc))
    case first =>
     have H := HC26.out; clear HC26; by_cases c27 : t292 = 0
     ·rw [if_pos c27] at H; have c27b0 : (t292 == 0) = true := beq_iff_eq.mpr c27; have c27b1 : (t292 != 0) = false := bne_eq_false_iff_eq.mpr c27; clear c27
      (first | rw [c27b0] | (simp only [i64_w, i32_w]; rw [c27b0]) | skip)
      by_cases c28 : t293 < 100
      ·rw [if_pos c28] at H; have c28b0 : decide (t293 < 100) = true := decide_eq_true c28; clear c28; have H' := aM H; clear H
       go_wp2
       go_meet
       case rel => exact ⟨_, (true), (by first | rfl | (simp; done) | (simp [*]; done)), H', ⟨by have := HJ3.out; first | omega | exact Nat.le_refl _⟩, ⟨by (with_reducible repeat (first | refine bN ?_ _ | refine bD ?_ | refine bA ?_ _)); exact BK280.out⟩, ⟨by repeat (first | (with_reducible first | exact HB.out | apply lA | apply lN | apply lD | refine below_set ?_ GE280.out) | exact HB.out)⟩⟩
      ·rw [if_neg c28] at H; have c28b0 : decide (t293 < 100) = false := decide_eq_false c28; clear c28; have H' := aM H; clear H
       go_wp2
       go_meet
       case rel => exact ⟨_, (decide (t293 > 599)), (by first | rfl | (simp; done) | (simp [*]; done)), H', ⟨by have := HJ3.out; first | omega | exact Nat.le_refl _⟩, ⟨by (with_reducible repeat (first | refine bN ?_ _ | refine bD ?_ | refine bA ?_ _)); exact BK280.out⟩, ⟨by repeat (first | (with_reducible first | exact HB.out | apply lA | apply lN | apply lD | refine below_set ?_ GE280.out) | exact HB.out)⟩⟩
     ·rw [if_neg c27] at H; have c27b0 : (t292 == 0) = false := beq_eq_false_iff_ne.mpr c27; have c27b1 : (t292 != 0) = true := bne_iff_ne.mpr c27
      (first | rw [c27b0] | (simp only [i64_w, i32_w]; rw [c27b0]) | skip)
      have H' := aM H; clear H
      go_wp2
      go_meet
      case rel => exact ⟨_, (false), (by first | rfl | (simp; done) | (simp [*]; done)), H', ⟨by have := HJ3.out; first | omega | exact Nat.le_refl _⟩, ⟨by (with_reducible repeat (first | refine bN ?_ _ | refine bD ?_ | refine bA ?_ _)); exact BK280.out⟩, ⟨by repeat (first | (with_reducible first | exact HB.out | apply lA | apply lN | apply lD | refine below_set ?_ GE280.out) | exact HB.out)⟩⟩
    case rest =>
     clear HC26; (try clear c1); (try clear p1); (try clear q1); (try clear hx1); (try clear qi1); (try clear c2); (try clear p2); (try clear c4); (try clear c6); (try clear c7); (try clear c8); (try clear c8b0); (try clear c8b1); (try clear c9); (try clear c9b0); (try clear c9b1); (try clear p10); (try clear q10); (try clear hx10); (try clear qi10); (try clear c12); (try clear c13); (try clear c13b0); (try clear c13b1); (try clear p14); (try clear q14); (try clear hx14); (try clear qi14); (try clear c16); (try clear c17); (try clear c17b0); (try clear c17b1); (try clear p18); (try clear q18); (try clear hx18); (try clear qi18); (try clear c20); (try clear c22); (try clear c27); (try clear c27b0); (try clear c27b1); (try clear c28); (try clear c28b0); (try clear hcz23_0); (try clear hcz23_1); (try clear hcz23_2); (try clear hcz23_3); (try clear hcz23_4); (try clear hcz23_5); (try clear hfz23_0); (try clear hfz23_1); (try clear hfz23_2); (try clear hfz23_3); (try clear hfz23_4); (try clear hfz23_5); (try clear p1); (try clear p10); (try clear p14); (try clear p18); (try clear p2); (try clear q1); (try clear q10); (try clear q14); (try clear q18); obtain ⟨kq, x80_25, rfl, HA, HJ25, BK280, HB⟩ := hcut; cases kq with
     | zero => exact absurd HA.out (by simp [lockageref06_answer.j1])
     | succ kj25 =>
      have H := HA.out; clear HA; simp only [lockageref06_answer.j1] at H; by_cases c29 : x80_25 = true
      ·subst c29; (have H1 : (some ((⟨#[]⟩ : ByteArray), (⟨#[]⟩ : ByteArray), t293, t285, t291, ([] : List (S37)), 20)) = some (r1, r2, r3, r4, r5, r6, r7) := by rw [if_pos rfl] at H; exact H); clear H; have H := H1; clear H1; simp only [Option.some.injEq, Prod.mk.injEq] at H; obtain ⟨rfl, rfl, rfl, rfl, rfl, rfl, rfl⟩ := H; obtain ⟨hcz30_0, hcz30_1, hcz30_2, hcz30_3, hcz30_4, hcz30_5, hfz30_0, hfz30_1, hfz30_2, hfz30_3, hfz30_4, hfz30_5⟩ := cz6 BK280.out
       go_wp2
       refine bodyPost_ret (results_ct rfl _ _ gb280 30 #[.string (⟨#[]⟩ : ByteArray), .string (⟨#[]⟩ : ByteArray), .int .i64 t293, .string t285, .int .i64 t291, .slice none 0 0] (0, 0) _ rfl (by (repeat (first | (with_reducible first | refine bN ?_ _ | refine bD ?_ | refine bA ?_ _ | apply p6_5 | apply p6_4 | apply p6_3 | apply p6_2 | apply p6_1 | apply p6_0))); exact BK280.out) Tryz.underlying30 rfl (by kernel_rfl)) rfl ?_
       exact ⟨_, by first | rfl | (simp [errW_none, errW_some] <;> rfl) | (simp [*, errW_none, errW_some] <;> rfl), by first | exact Kd.R_nil _ _ _ _ _ | exact Kd.N_nil _ _ _ _ _ | exact Kd.V_nil _ _ _ _ _ | exact Kd.Q_nil _ _ _ _ _ | exact Kd.S_nil _ _ _ _ _, by repeat (first | (with_reducible first | exact HB.out | apply lA | apply lN | apply lD | refine below_set ?_ GE280.out) | exact HB.out)⟩
      ·replace c29 := Bool.eq_false_iff.mpr c29; subst c29; (have H1 : (some ((⟨#[]⟩ : ByteArray), (⟨#[]⟩ : ByteArray), t293, t285, t291, ([] : List (S37)), t292)) = some (r1, r2, r3, r4, r5, r6, r7) := by rw [if_neg (show ¬ (false = true) by decide)] at H; exact H); clear H; have H := H1; clear H1; simp only [Option.some.injEq, Prod.mk.injEq] at H; obtain ⟨rfl, rfl, rfl, rfl, rfl, rfl, rfl⟩ := H; obtain ⟨hcz31_0, hcz31_1, hcz31_2, hcz31_3, hcz31_4, hcz31_5, hfz31_0, hfz31_1, hfz31_2, hfz31_3, hfz31_4, hfz31_5⟩ := cz6 BK280.out
       go_wp2
       refine bodyPost_ret (results_ct rfl _ _ gb280 30 #[.string (⟨#[]⟩ : ByteArray), .string (⟨#[]⟩ : ByteArray), .int .i64 t293, .string t285, .int .i64 t291, .slice none 0 0] (0, 0) _ rfl (by (repeat (first | (with_reducible first | refine bN ?_ _ | refine bD ?_ | refine bA ?_ _ | apply p6_5 | apply p6_4 | apply p6_3 | apply p6_2 | apply p6_1 | apply p6_0))); exact BK280.out) Tryz.underlying30 rfl (by kernel_rfl)) rfl ?_
       exact ⟨_, by first | rfl | (simp [errW_none, errW_some] <;> rfl) | (simp [*, errW_none, errW_some] <;> rfl), by first | exact Kd.R_nil _ _ _ _ _ | exact Kd.N_nil _ _ _ _ _ | exact Kd.V_nil _ _ _ _ _ | exact Kd.Q_nil _ _ _ _ _ | exact Kd.S_nil _ _ _ _ _, by repeat (first | (with_reducible first | exact HB.out | apply lA | apply lN | apply lD | refine below_set ?_ GE280.out) | exact HB.out)⟩

end Go.Proofs.YtemhokkfefidlaaGreatDoor.P
