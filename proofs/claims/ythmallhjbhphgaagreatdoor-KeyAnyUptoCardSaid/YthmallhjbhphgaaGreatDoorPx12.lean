/- Printed by a program of the session out of the translation: plain Lean functions, each with the contract that the Go function computes it. -/
import Derived.Test.YthmallhjbhphgaaGreatDoorHZm
import Derived.Test.YthmallhjbhphgaaGreatDoorHZ
import Derived.Test.YthmallhjbhphgaaGreatDoorPx0
import Derived.Test.YthmallhjbhphgaaGreatDoorPx5
import Derived.Test.YthmallhjbhphgaaGreatDoorPx10
import Derived.Test.YthmallhjbhphgaaGreatDoorPx11
namespace Go.Proofs.YthmallhjbhphgaaGreatDoor.P
open Go.RowKit Go.Proofs.YthmallhjbhphgaaGreatDoorW.PrintWords Go.Proofs.YthmallhjbhphgaaGreatDoorW.PrintLast Go.Proofs.YthmallhjbhphgaaGreatDoorW.PrintMore
attribute [local go_sem] max2_int min2_int max_two min_two max_three min_three max_four min_four   -- for this text's walks alone
set_option linter.unusedVariables false
set_option linter.unusedSimpArgs false

mutual
def lockageref13_Normal.j1 : Nat → ByteArray → Int → Option (ByteArray × ByteArray × Int)
 | 0, _, _ => none
 | k + 1, x0, x5 => if 0 ≤ x5 then (if x5 ≤ (x0.size : Int) then ((lockageref13_plain.f k (x0.extract 0 (x5 : Int).toNat)).bind fun bt331 => (if bt331.2 = true then (if bt331.1.toList = ([] : List UInt8) then (lockageref13_Normal.j2 k x0 x5 bt331.1 true) else (if 0 < (bt331.1.size : Int) then (lockageref13_Normal.j2 k x0 x5 bt331.1 ((bt bt331.1 0) != 47)) else (none))) else (lockageref13_Normal.j2 k x0 x5 bt331.1 true))) else (none)) else (none)
def lockageref13_Normal.j2 : Nat → ByteArray → Int → ByteArray → Bool → Option (ByteArray × ByteArray × Int)
 | 0, _, _, _, _ => none
 | k + 1, x0, x5, x6, x42 => if x42 = true then (some ((⟨#[]⟩ : ByteArray), (⟨#[]⟩ : ByteArray), 40)) else (if 0 ≤ x5 then (if x5 ≤ (x0.size : Int) then (lockageref13_Normal.l1 k x6 (x0.extract (x5 : Int).toNat x0.size) 0) else (none)) else (none))
def lockageref13_Normal.l1 : Nat → ByteArray → ByteArray → Int → Option (ByteArray × ByteArray × Int)
 | 0, _, _, _ => none
 | k + 1, x6, x8, x9 => if x9 < (x8.size : Int) then (if 0 ≤ x9 then (if (bt x8 x9) < 33 then (lockageref13_Normal.j4 k x6 x8 x9 true) else (if (bt x8 x9) > 126 then (lockageref13_Normal.j4 k x6 x8 x9 true) else (lockageref13_Normal.j4 k x6 x8 x9 ((bt x8 x9) == 35)))) else (none)) else ((lockageref13_Segments.f k x6).bind fun t333 => ((lockageref13_dots.f k t333).bind fun t336 => (some (t336, x8, 0))))
def lockageref13_Normal.j4 : Nat → ByteArray → ByteArray → Int → Bool → Option (ByteArray × ByteArray × Int)
 | 0, _, _, _, _ => none
 | k + 1, x6, x8, x9, x67 => if x67 = true then (some ((⟨#[]⟩ : ByteArray), (⟨#[]⟩ : ByteArray), 40)) else (lockageref13_Normal.l1 k x6 x8 (wrap64 (x9 + 1)))
def lockageref13_Normal.l0 : Nat → ByteArray → Int → Option (ByteArray × ByteArray × Int)
 | 0, _, _ => none
 | k + 1, x0, x5 => if x5 < (x0.size : Int) then (if 0 ≤ x5 then (if (bt x0 x5) = 63 then (lockageref13_Normal.j1 k x0 x5) else (lockageref13_Normal.l0 k x0 (wrap64 (x5 + 1)))) else (none)) else (lockageref13_Normal.j1 k x0 x5)
end
def lockageref13_Normal.f (k : Nat) (a0 : ByteArray) : Option (ByteArray × ByteArray × Int) := if (a0.size : Int) > 200 then (some ((⟨#[]⟩ : ByteArray), (⟨#[]⟩ : ByteArray), 2)) else (lockageref13_Normal.l0 k a0 0)
theorem lockageref13_Normal.mono_l : ∀ k, (∀ y0 y1, LeO (lockageref13_Normal.j1 k y0 y1) (lockageref13_Normal.j1 (k + 1) y0 y1)) ∧ (∀ y0 y1 y2 y3, LeO (lockageref13_Normal.j2 k y0 y1 y2 y3) (lockageref13_Normal.j2 (k + 1) y0 y1 y2 y3)) ∧ (∀ y0 y1 y2, LeO (lockageref13_Normal.l1 k y0 y1 y2) (lockageref13_Normal.l1 (k + 1) y0 y1 y2)) ∧ (∀ y0 y1 y2 y3, LeO (lockageref13_Normal.j4 k y0 y1 y2 y3) (lockageref13_Normal.j4 (k + 1) y0 y1 y2 y3)) ∧ (∀ y0 y1, LeO (lockageref13_Normal.l0 k y0 y1) (lockageref13_Normal.l0 (k + 1) y0 y1))
 | 0 => ⟨fun _ _ r h => by simp [lockageref13_Normal.j1] at h, fun _ _ _ _ r h => by simp [lockageref13_Normal.j2] at h, fun _ _ _ r h => by simp [lockageref13_Normal.l1] at h, fun _ _ _ _ r h => by simp [lockageref13_Normal.j4] at h, fun _ _ r h => by simp [lockageref13_Normal.l0] at h⟩
 | k + 1 => by
  obtain ⟨ih0, ih1, ih2, ih3, ih4⟩ := lockageref13_Normal.mono_l k
  refine ⟨?_, ?_, ?_, ?_, ?_⟩
  ·intro y0 y1
   unfold lockageref13_Normal.j1; have m0 := @lockageref13_Segments.mono; have m1 := @lockageref13_dots.mono; have m2 := @lockageref13_plain.mono; exact zM
  ·intro y0 y1 y2 y3
   unfold lockageref13_Normal.j2; have m0 := @lockageref13_Segments.mono; have m1 := @lockageref13_dots.mono; have m2 := @lockageref13_plain.mono; exact zM
  ·intro y0 y1 y2
   unfold lockageref13_Normal.l1; have m0 := @lockageref13_Segments.mono; have m1 := @lockageref13_dots.mono; have m2 := @lockageref13_plain.mono; exact zM
  ·intro y0 y1 y2 y3
   unfold lockageref13_Normal.j4; have m0 := @lockageref13_Segments.mono; have m1 := @lockageref13_dots.mono; have m2 := @lockageref13_plain.mono; exact zM
  ·intro y0 y1
   unfold lockageref13_Normal.l0; have m0 := @lockageref13_Segments.mono; have m1 := @lockageref13_dots.mono; have m2 := @lockageref13_plain.mono; exact zM
theorem lockageref13_Normal.mono : ∀ a0 k, LeO (lockageref13_Normal.f k a0) (lockageref13_Normal.f (k + 1) a0) := by
 intro a0 k
 obtain ⟨ih0, ih1, ih2, ih3, ih4⟩ := lockageref13_Normal.mono_l k
 unfold lockageref13_Normal.f; have m0 := @lockageref13_Segments.mono; have m1 := @lockageref13_dots.mono; have m2 := @lockageref13_plain.mono; exact zM
set_option maxHeartbeats 8000000 in
set_option maxRecDepth 100000 in
theorem lockageref13_Normal.calls (k : Nat) (a0 : ByteArray) (r1 : ByteArray) (r2 : ByteArray) (r3 : Int) (w : World) (h : lockageref13_Normal.f k a0 = some (r1, r2, r3)) :
  Calls Tryz.prog 44 #[.string a0] w fun e w' => e = .returned (.tuple #[.string r1, .string r2, .int .i64 r3]) ∧ Below w.heap.size w w' := by
 have HB := aM (Below.refl w.heap.size w); have H : (if (a0.size : Int) > 200 then (some ((⟨#[]⟩ : ByteArray), (⟨#[]⟩ : ByteArray), 2)) else (lockageref13_Normal.l0 k a0 0)) = some (r1, r2, r3) := h; clear h; by_cases c2 : (a0.size : Int) > 200
 ·rw [if_pos c2] at H; have c2b0 := decide_eq_true c2; have c2b1 : decide (200 < a0.size) = true := decide_eq_true (by omega); clear c2; simp only [Option.some.injEq, Prod.mk.injEq] at H; obtain ⟨rfl, rfl, rfl⟩ := H
  go_enter Tryz.func44, Tryz.ntmps44
  go_wp2
  go_ret3
  exact ⟨zE, zB⟩
 ·rw [if_neg c2] at H; have c2b0 := decide_eq_false c2; have c2b1 : decide (200 < a0.size) = false := decide_eq_false (by omega); clear c2; have HC3 := aM H; clear H
  go_enter Tryz.func44, Tryz.ntmps44
  go_upto_block 0 with (fail)
  go_cut [5] (fun v5 wc => ∃ (kq : Nat) (x5_2 : Int), v5 = .int .i64 x5_2 ∧ Aside0 (lockageref13_Normal.j1 kq a0 x5_2 = some (r1, r2, r3)) ∧ Aside0 (kq ≤ k) ∧ Aside0 (Below w.heap.size w wc))
  case first =>
   have H := HC3.out; clear HC3; have H' := aM H; clear H
   go_wp2
   go_loopg [5] k (fun kq v5 w' => ∃ (x5_1 : Int), v5 = .int .i64 x5_1 ∧ Aside0 (lockageref13_Normal.l0 kq a0 x5_1 = some (r1, r2, r3)) ∧ Aside0 (kq ≤ k) ∧ Aside0 (Below w.heap.size w w'))
   case atStart => exact ⟨(0), zR, H', ⟨Nat.le_refl _⟩, ⟨zB⟩⟩
   case round =>
    clear H'; (try clear c2); (try clear c2b0); (try clear c2b1); (try clear p2); obtain ⟨x5_1, rfl, HA, HK1, HB⟩ := hrel; cases gk with
    | zero => exact absurd HA.out (by simp [lockageref13_Normal.l0])
    | succ k1 =>
     have H := HA.out; clear HA; simp only [lockageref13_Normal.l0] at H; by_cases c4 : x5_1 < (a0.size : Int)
     ·rw [if_pos c4] at H; have c4b0 := decide_eq_true c4; clear c4
      (first | rw [c4b0] | (simp only [i64_w, i32_w]; rw [c4b0]) | skip)
      by_cases c5 : 0 ≤ x5_1
      ·rw [if_pos c5] at H; have c5b0 := decide_eq_true c5; clear c5; by_cases c7 : (bt a0 x5_1) = 63
       ·rw [if_pos c7] at H; obtain ⟨c7b0, c7b1⟩ := zd c7; clear c7; have H' := aM H; clear H; have p6 : 0 ≤ (x5_1 : Int) := of_decide_eq_true zA; have q6 : x5_1 < (a0.size : Int) := of_decide_eq_true zA; have hx6 := bt_at a0 x5_1; replace p6 := eq_true p6; replace q6 := eq_true q6
        go_wp2
        go_meet
        case rel => exact ⟨_, (x5_1), zR, H', ⟨by have := HK1.out; first | omega | exact Nat.le_refl _⟩, ⟨zB⟩⟩
       ·rw [if_neg c7] at H; obtain ⟨c7b0, c7b1⟩ := ze c7; have H' := aM H; clear H; have p6 : 0 ≤ (x5_1 : Int) := of_decide_eq_true zA; have q6 : x5_1 < (a0.size : Int) := of_decide_eq_true zA; have hx6 := bt_at a0 x5_1; replace p6 := eq_true p6; replace q6 := eq_true q6
        go_wp2
        go_roundg k1
        case measure => have := HK1.out; omega
        case rel => exact ⟨(wrap64 (x5_1 + 1)), zR, H', ⟨by have := HK1.out; omega⟩, ⟨zB⟩⟩
      ·exact zf c5 H
     ·rw [if_neg c4] at H; have c4b0 := decide_eq_false c4; clear c4
      (first | rw [c4b0] | (simp only [i64_w, i32_w]; rw [c4b0]) | skip)
      have H' := aM H; clear H
      go_wp2
      go_meet
      case rel => exact ⟨_, (x5_1), zR, H', ⟨by have := HK1.out; first | omega | exact Nat.le_refl _⟩, ⟨zB⟩⟩
  case rest =>
   clear HC3; (try clear c2); (try clear c2b0); (try clear c2b1); (try clear p2); (try clear c4); (try clear c4b0); (try clear c5); (try clear c5b0); (try clear p6); (try clear q6); (try clear hx6); (try clear c7); (try clear c7b0); (try clear c7b1); (try clear p2); (try clear p6); (try clear q6); obtain ⟨kq, x5_2, rfl, HA, HJ2, HB⟩ := hcut; cases kq with
   | zero => exact absurd HA.out (by simp [lockageref13_Normal.j1])
   | succ kj2 =>
    have H := HA.out; clear HA; simp only [lockageref13_Normal.j1] at H; by_cases c8 : 0 ≤ x5_2
    ·rw [if_pos c8] at H; have c8b0 := eq_true c8; have c8b1 := decide_eq_true c8; clear c8; by_cases c9 : x5_2 ≤ (a0.size : Int)
     ·rw [if_pos c9] at H; have c9b0 := eq_true c9; have c9b1 := decide_eq_true c9; clear c9; obtain ⟨⟨t331, t332⟩, A10, H⟩ := zc H; (try dsimp only at H); have HC11 := aM H; clear H
      go_upto_region 7 with (first | ((with_reducible refine gate_callee (f := 62) rfl ?_); refine goesL_ (some 29) rfl rfl Tryz.func62 (by kernel_rfl) rfl #[.string (a0.extract 0 (x5_2 : Int).toNat)] rfl zL ?_; (with_reducible refine (lockageref13_plain.calls kj2 (a0.extract 0 (x5_2 : Int).toNat) t331 t332 _ A10.out).mono ?_); rintro e w12 ⟨rfl, hb⟩; refine ⟨_, rfl, ?_⟩; replace HB := aM (below_step zB hb); clear hb))
      (try simp only [Act.put, List.setIfInBounds_toArray, List.set_cons_zero, List.set_cons_succ])
      go_cut [42] (fun v42 wc => ∃ (kq : Nat) (x42_10 : Bool), v42 = .bool x42_10 ∧ Aside0 (lockageref13_Normal.j2 kq a0 x5_2 t331 x42_10 = some (r1, r2, r3)) ∧ Aside0 (kq ≤ kj2) ∧ Aside0 (Below w.heap.size w wc))
      case first =>
       have H := HC11.out; clear HC11; by_cases c13 : t332 = true
       ·subst c13; rw [if_pos rfl] at H; by_cases c14 : t331.toList = ([] : List UInt8)
        ·rw [if_pos c14] at H; obtain ⟨c14b0, c14b1⟩ := zd c14; clear c14
         (first | rw [c14b0] | (simp only [i64_w, i32_w]; rw [c14b0]) | skip)
         have H' := aM H; clear H
         go_wp2
         go_meet
         case rel => exact ⟨_, (true), zR, H', ⟨by have := HJ2.out; first | omega | exact Nat.le_refl _⟩, ⟨zB⟩⟩
        ·rw [if_neg c14] at H; obtain ⟨c14b0, c14b1⟩ := ze c14
         (first | rw [c14b0] | (simp only [i64_w, i32_w]; rw [c14b0]) | skip)
         by_cases c15 : 0 < (t331.size : Int)
         ·rw [if_pos c15] at H; have c15b0 := decide_eq_true c15; have c15b1 : decide (0 < t331.size) = true := decide_eq_true (by omega); clear c15; have H' := aM H; clear H; have p16 : 0 ≤ (0 : Int) := (by omega); have q16 : 0 < t331.size := (by have : (0 : Int) < (t331.size : Int) := of_decide_eq_true zA; omega); have hx16 : ∀ h : 0 < t331.size, ((t331[0]'h).toNat : Int) = bt t331 0 := bt_at t331 0; clear p16; have qi16 : (0 < (t331.size : Int)) = True := eq_true (of_decide_eq_true zA); replace q16 := eq_true q16
          go_wp2
          go_meet
          case rel => exact ⟨_, (((bt t331 0) != 47)), zR, H', ⟨by have := HJ2.out; first | omega | exact Nat.le_refl _⟩, ⟨zB⟩⟩
         ·exact zf c15 H
       ·replace c13 := Bool.eq_false_iff.mpr c13; subst c13; rw [if_neg (show ¬ (false = true) by decide)] at H; have H' := aM H; clear H
        go_wp2
        go_meet
        case rel => exact ⟨_, (true), zR, H', ⟨by have := HJ2.out; first | omega | exact Nat.le_refl _⟩, ⟨zB⟩⟩
      case rest =>
       clear HC11; (try clear c1); (try clear p1); (try clear q1); (try clear hx1); (try clear qi1); (try clear c2); (try clear c2b0); (try clear c2b1); (try clear p2); (try clear c4); (try clear c4b0); (try clear c5); (try clear c5b0); (try clear c6); (try clear p6); (try clear q6); (try clear hx6); (try clear c7); (try clear c7b0); (try clear c7b1); (try clear c8); (try clear c8b0); (try clear c8b1); (try clear c9); (try clear c9b0); (try clear c9b1); (try clear c13); (try clear c14); (try clear c14b0); (try clear c14b1); (try clear c15); (try clear c15b0); (try clear c15b1); (try clear p16); (try clear q16); (try clear hx16); (try clear qi16); (try clear p16); (try clear p2); (try clear p6); (try clear q16); (try clear q6); obtain ⟨kq, x42_10, rfl, HA, HJ10, HB⟩ := hcut; cases kq with
       | zero => exact absurd HA.out (by simp [lockageref13_Normal.j2])
       | succ kj10 =>
        have H := HA.out; clear HA; simp only [lockageref13_Normal.j2] at H; by_cases c17 : x42_10 = true
        ·subst c17; rw [if_pos rfl] at H; simp only [Option.some.injEq, Prod.mk.injEq] at H; obtain ⟨rfl, rfl, rfl⟩ := H
         go_wp2
         go_ret3
         exact ⟨zE, zB⟩
        ·replace c17 := Bool.eq_false_iff.mpr c17; subst c17; rw [if_neg (show ¬ (false = true) by decide)] at H; obtain ⟨T331, hT331⟩ : ∃ l_ : ByteArray, (a0.extract (x5_2 : Int).toNat a0.size) = l_ := ⟨_, rfl⟩; rw [hT331] at H; by_cases c18 : 0 ≤ x5_2
         ·rw [if_pos c18] at H; have c18b0 := eq_true c18; have c18b1 := decide_eq_true c18; clear c18; by_cases c19 : x5_2 ≤ (a0.size : Int)
          ·rw [if_pos c19] at H; have c19b0 := eq_true c19; have c19b1 := decide_eq_true c19; clear c19; have H' := aM H; clear H
           go_wp2
           go_loopg [9] kj10 (fun kq v9 w' => ∃ (x9_3 : Int), v9 = .int .i64 x9_3 ∧ Aside0 (lockageref13_Normal.l1 kq t331 T331 x9_3 = some (r1, r2, r3)) ∧ Aside0 (kq ≤ kj10) ∧ Aside0 (Below w.heap.size w w'))
           case atStart => exact ⟨(0), zR, H', ⟨Nat.le_refl _⟩, ⟨zB⟩⟩
           case round =>
            clear H'; (try clear c1); (try clear p1); (try clear q1); (try clear hx1); (try clear qi1); (try clear c2); (try clear c2b0); (try clear c2b1); (try clear p2); (try clear c4); (try clear c4b0); (try clear c5); (try clear c5b0); (try clear c6); (try clear p6); (try clear q6); (try clear hx6); (try clear c7); (try clear c7b0); (try clear c7b1); (try clear c8); (try clear c8b0); (try clear c8b1); (try clear c9); (try clear c9b0); (try clear c9b1); (try clear c13); (try clear c14); (try clear c14b0); (try clear c14b1); (try clear c15); (try clear c15b0); (try clear c15b1); (try clear p16); (try clear q16); (try clear hx16); (try clear qi16); (try clear c17); (try clear c18); (try clear c18b0); (try clear c18b1); (try clear c19); (try clear c19b0); (try clear c19b1); (try clear p1); (try clear p16); (try clear p2); (try clear p6); (try clear q1); (try clear q16); (try clear q6); obtain ⟨x9_3, rfl, HA, HK3, HB⟩ := hrel; cases gk with
            | zero => exact absurd HA.out (by simp [lockageref13_Normal.l1])
            | succ k3 =>
             have H := HA.out; clear HA; simp only [lockageref13_Normal.l1] at H; by_cases c20 : x9_3 < (T331.size : Int)
             ·rw [if_pos c20] at H; have c20b0 := decide_eq_true c20; clear c20; have HC21 := aM H; clear H
              go_upto_region 13 with (fail)
              go_cut [67] (fun v67 wc => ∃ (kq : Nat) (x67_20 : Bool), v67 = .bool x67_20 ∧ Aside0 (lockageref13_Normal.j4 kq t331 T331 x9_3 x67_20 = some (r1, r2, r3)) ∧ Aside0 (kq ≤ k3) ∧ Aside0 (Below w.heap.size w wc))
              case first =>
               have H := HC21.out; clear HC21; by_cases c22 : 0 ≤ x9_3
               ·rw [if_pos c22] at H; have c22b0 := decide_eq_true c22; clear c22
                (first | rw [c22b0] | (simp only [i64_w, i32_w]; rw [c22b0]) | skip)
                by_cases c24 : (bt T331 x9_3) < 33
                ·rw [if_pos c24] at H; have c24b0 := decide_eq_true c24; clear c24; have H' := aM H; clear H; have p23 : 0 ≤ (x9_3 : Int) := of_decide_eq_true zA; have q23 : x9_3 < (T331.size : Int) := of_decide_eq_true zA; have hx23 := bt_at T331 x9_3; replace p23 := eq_true p23; replace q23 := eq_true q23
                 go_wp2
                 go_meet
                 case rel => exact ⟨_, (true), zR, H', ⟨by have := HJ2.out; have := HJ10.out; have := HK3.out; first | omega | exact Nat.le_refl _⟩, ⟨zB⟩⟩
                ·rw [if_neg c24] at H; have c24b0 := decide_eq_false c24; clear c24; by_cases c26 : (bt T331 x9_3) > 126
                 ·rw [if_pos c26] at H; have c26b0 := decide_eq_true c26; clear c26; have H' := aM H; clear H; have p23 : 0 ≤ (x9_3 : Int) := of_decide_eq_true zA; have q23 : x9_3 < (T331.size : Int) := of_decide_eq_true zA; have hx23 := bt_at T331 x9_3; replace p23 := eq_true p23; replace q23 := eq_true q23; have p25 : 0 ≤ (x9_3 : Int) := of_decide_eq_true zA; have q25 : x9_3 < (T331.size : Int) := of_decide_eq_true zA; have hx25 := bt_at T331 x9_3; replace p25 := eq_true p25; replace q25 := eq_true q25
                  go_wp2
                  go_meet
                  case rel => exact ⟨_, (true), zR, H', ⟨by have := HJ2.out; have := HJ10.out; have := HK3.out; first | omega | exact Nat.le_refl _⟩, ⟨zB⟩⟩
                 ·rw [if_neg c26] at H; have c26b0 := decide_eq_false c26; clear c26; have H' := aM H; clear H; have p23 : 0 ≤ (x9_3 : Int) := of_decide_eq_true zA; have q23 : x9_3 < (T331.size : Int) := of_decide_eq_true zA; have hx23 := bt_at T331 x9_3; replace p23 := eq_true p23; replace q23 := eq_true q23; have p25 : 0 ≤ (x9_3 : Int) := of_decide_eq_true zA; have q25 : x9_3 < (T331.size : Int) := of_decide_eq_true zA; have hx25 := bt_at T331 x9_3; replace p25 := eq_true p25; replace q25 := eq_true q25; have p27 : 0 ≤ (x9_3 : Int) := of_decide_eq_true zA; have q27 : x9_3 < (T331.size : Int) := of_decide_eq_true zA; have hx27 := bt_at T331 x9_3; replace p27 := eq_true p27; replace q27 := eq_true q27
                  go_wp2
                  go_meet
                  case rel => exact ⟨_, (((bt T331 x9_3) == 35)), zR, H', ⟨by have := HJ2.out; have := HJ10.out; have := HK3.out; first | omega | exact Nat.le_refl _⟩, ⟨zB⟩⟩
               ·exact zf c22 H
              case rest =>
               clear HC21; (try clear c1); (try clear p1); (try clear q1); (try clear hx1); (try clear qi1); (try clear c2); (try clear c2b0); (try clear c2b1); (try clear p2); (try clear q2); (try clear hx2); (try clear c4); (try clear c4b0); (try clear c5); (try clear c5b0); (try clear c6); (try clear p6); (try clear q6); (try clear hx6); (try clear c7); (try clear c7b0); (try clear c7b1); (try clear c8); (try clear c8b0); (try clear c8b1); (try clear c9); (try clear c9b0); (try clear c9b1); (try clear c13); (try clear c14); (try clear c14b0); (try clear c14b1); (try clear c15); (try clear c15b0); (try clear c15b1); (try clear p16); (try clear q16); (try clear hx16); (try clear qi16); (try clear c17); (try clear c18); (try clear c18b0); (try clear c18b1); (try clear c19); (try clear c19b0); (try clear c19b1); (try clear c20); (try clear c20b0); (try clear c22); (try clear c22b0); (try clear p23); (try clear q23); (try clear hx23); (try clear c24); (try clear c24b0); (try clear p25); (try clear q25); (try clear hx25); (try clear c26); (try clear c26b0); (try clear p27); (try clear q27); (try clear hx27); (try clear p1); (try clear p16); (try clear p2); (try clear p23); (try clear p25); (try clear p27); (try clear p6); (try clear q1); (try clear q16); (try clear q23); (try clear q25); (try clear q27); (try clear q6); obtain ⟨kq, x67_20, rfl, HA, HJ20, HB⟩ := hcut; cases kq with
               | zero => exact absurd HA.out (by simp [lockageref13_Normal.j4])
               | succ kj20 =>
                have H := HA.out; clear HA; simp only [lockageref13_Normal.j4] at H; by_cases c28 : x67_20 = true
                ·subst c28; rw [if_pos rfl] at H; simp only [Option.some.injEq, Prod.mk.injEq] at H; obtain ⟨rfl, rfl, rfl⟩ := H
                 go_wp2
                 go_ret3
                 exact ⟨zE, zB⟩
                ·replace c28 := Bool.eq_false_iff.mpr c28; subst c28; rw [if_neg (show ¬ (false = true) by decide)] at H; have H' := aM H; clear H
                 go_wp2
                 go_roundg kj20
                 case measure => have := HJ2.out; have := HJ10.out; have := HK3.out; have := HJ20.out; omega
                 case rel => exact ⟨(wrap64 (x9_3 + 1)), zR, H', ⟨by have := HJ2.out; have := HJ10.out; have := HK3.out; have := HJ20.out; omega⟩, ⟨zB⟩⟩
             ·rw [if_neg c20] at H; have c20b0 := decide_eq_false c20; clear c20; replace H := Option.bind_eq_some_iff.mp H; obtain ⟨t333, A290, H⟩ := H; replace H : ((lockageref13_dots.f k3 t333).bind fun t336 => (some (t336, T331, 0))) = some (r1, r2, r3) := H; have A29 := aM A290; clear A290; replace H := Option.bind_eq_some_iff.mp H; obtain ⟨t336, A300, H⟩ := H; replace H : (some (t336, T331, 0)) = some (r1, r2, r3) := H; have A30 := aM A300; clear A300; simp only [Option.some.injEq, Prod.mk.injEq] at H; obtain ⟨rfl, rfl, rfl⟩ := H
              go_wp2_with (first | ((with_reducible refine gate_callee (f := 64) rfl ?_); refine goesL_ (some 69) rfl rfl Tryz.func64 (by kernel_rfl) rfl #[.string t331] rfl zL ?_; (with_reducible refine (lockageref13_Segments.calls k3 t331 t333 _ A29.out).mono ?_); rintro e w31 ⟨v334, rfl, ho0, hb⟩; refine ⟨_, rfl, ?_⟩; have HO335 := aM (Kd.R_lower ho0 (below_size zB)); replace HB := aM (below_step zB hb); clear hb ho0; obtain ⟨Ao32, co32, eo32⟩ := Kd.R_slice HO335.out; subst eo32) | ((with_reducible refine gate_callee (f := 63) rfl ?_); refine goesL_ (some 70) rfl rfl Tryz.func63 (by kernel_rfl) rfl #[.slice Ao32 t333.length co32] rfl zL ?_; (with_reducible refine (lockageref13_dots.calls k3 _ _ t333 t336 _ ?side1 ?side2 A30.out).mono ?_); (case side1 => exact zC ((Kd.R_reads' HO335.out).2.2)); (case side2 => exact (Kd.R_reads' HO335.out).2.1); rintro e w33 ⟨rfl, hb⟩; refine ⟨_, rfl, ?_⟩; replace HO335 := aM (Kd.R_below (zO HO335.out) hb); replace HB := aM (below_step zB hb); clear hb))
              go_ret3
              exact ⟨zE, zB⟩
          ·exact zf c19 H
         ·exact zf c18 H
     ·exact zf c9 H
    ·exact zf c8 H

def lockageref16_Key.f (k : Nat) (a0_0 : ByteArray) (a0_1 : ByteArray) (a0_2 : Int) (a0_3 : ByteArray) (a0_4 : Int) (l0_5 : List (S37)) (a0_6 : ByteArray) : Option (ByteArray × Int) := (lockageref13_Normal.f k a0_1).bind fun bt338 => (if bt338.2.2 = 0 then ((lockageref05_Get.f k l0_5 (⟨#[104, 111, 115, 116]⟩ : ByteArray)).bind fun t341 => (if (t341.length : Int) > 0 then (if 0 < (t341.length : Int) then ((lockageref05_Lower.f k (rdOf ByteArray.empty t341 0)).bind fun t345 => (if a0_0.size + 1 ≤ 9223372036854775807 then (if (a0_0 ++ (⟨#[32]⟩ : ByteArray)).size + t345.size ≤ 9223372036854775807 then (if ((a0_0 ++ (⟨#[32]⟩ : ByteArray)) ++ t345).size + 1 ≤ 9223372036854775807 then (if (((a0_0 ++ (⟨#[32]⟩ : ByteArray)) ++ t345) ++ (⟨#[32]⟩ : ByteArray)).size + bt338.1.size ≤ 9223372036854775807 then (if ((((a0_0 ++ (⟨#[32]⟩ : ByteArray)) ++ t345) ++ (⟨#[32]⟩ : ByteArray)) ++ bt338.1).size + bt338.2.1.size ≤ 9223372036854775807 then (some (((((a0_0 ++ (⟨#[32]⟩ : ByteArray)) ++ t345) ++ (⟨#[32]⟩ : ByteArray)) ++ bt338.1) ++ bt338.2.1, 0)) else (none)) else (none)) else (none)) else (none)) else (none))) else (none)) else (if a0_0.size + 1 ≤ 9223372036854775807 then (if (a0_0 ++ (⟨#[32]⟩ : ByteArray)).size + 0 ≤ 9223372036854775807 then (if ((a0_0 ++ (⟨#[32]⟩ : ByteArray)) ++ (⟨#[]⟩ : ByteArray)).size + 1 ≤ 9223372036854775807 then (if (((a0_0 ++ (⟨#[32]⟩ : ByteArray)) ++ (⟨#[]⟩ : ByteArray)) ++ (⟨#[32]⟩ : ByteArray)).size + bt338.1.size ≤ 9223372036854775807 then (if ((((a0_0 ++ (⟨#[32]⟩ : ByteArray)) ++ (⟨#[]⟩ : ByteArray)) ++ (⟨#[32]⟩ : ByteArray)) ++ bt338.1).size + bt338.2.1.size ≤ 9223372036854775807 then (some (((((a0_0 ++ (⟨#[32]⟩ : ByteArray)) ++ (⟨#[]⟩ : ByteArray)) ++ (⟨#[32]⟩ : ByteArray)) ++ bt338.1) ++ bt338.2.1, 0)) else (none)) else (none)) else (none)) else (none)) else (none)))) else (some ((⟨#[]⟩ : ByteArray), bt338.2.2)))
theorem lockageref16_Key.mono : ∀ a0 a1 a2 a3 a4 a5 a6 k, LeO (lockageref16_Key.f k a0 a1 a2 a3 a4 a5 a6) (lockageref16_Key.f (k + 1) a0 a1 a2 a3 a4 a5 a6) := by
 intro a0 a1 a2 a3 a4 a5 a6 k
 unfold lockageref16_Key.f; have m0 := @lockageref05_Get.mono; have m1 := @lockageref05_Lower.mono; have m2 := @lockageref13_Normal.mono; exact zM
set_option maxHeartbeats 8000000 in
set_option maxRecDepth 100000 in
theorem lockageref16_Key.calls (k : Nat) (a0_0 : ByteArray) (a0_1 : ByteArray) (a0_2 : Int) (a0_3 : ByteArray) (a0_4 : Int) (A0_5 : Option Addr) (c0_5 : Nat) (l0_5 : List (S37)) (a0_6 : ByteArray) (r1 : ByteArray) (r2 : Int) (w : World) (hr0_5 : Kd.C k37 w A0_5 l0_5.length l0_5) (hc0_5 : l0_5.length ≤ c0_5) (h : lockageref16_Key.f k a0_0 a0_1 a0_2 a0_3 a0_4 l0_5 a0_6 = some (r1, r2)) :
  Calls Tryz.prog 25 #[.agg #[.string a0_0, .string a0_1, .int .i64 a0_2, .string a0_3, .int .i64 a0_4, .slice A0_5 l0_5.length c0_5, .string a0_6]] w fun e w' => e = .returned (.tuple #[.string r1, .int .i64 r2]) ∧ Below w.heap.size w w' := by
 have hu26 := Tryz.underlying26; have HR0_5 := aM hr0_5; have HC0_5 := aM hc0_5; clear hr0_5 hc0_5; have HB := aM (Below.refl w.heap.size w); have H := h; unfold lockageref16_Key.f at H; clear h; obtain ⟨⟨t338, t339, t340⟩, A2, H⟩ := zc H; (try dsimp only at H); by_cases c3 : t340 = 0
 ·rw [if_pos c3] at H; obtain ⟨c3b0, c3b1⟩ := zd c3; clear c3; obtain ⟨t341, A4, H⟩ := zc H; (try dsimp only at H); by_cases c5 : (t341.length : Int) > 0
  ·rw [if_pos c5] at H; have c5b0 := decide_eq_true c5; have c5b1 : decide (0 < t341.length) = true := decide_eq_true (by omega); clear c5; by_cases c6 : 0 < (t341.length : Int)
   ·rw [if_pos c6] at H; have c6b0 := decide_eq_true c6; have c6b1 : decide (0 < t341.length) = true := decide_eq_true (by omega); clear c6; obtain ⟨t345, A7, H⟩ := zc H; (try dsimp only at H); by_cases c8 : a0_0.size + 1 ≤ 9223372036854775807
    ·rw [if_pos c8] at H; have c8b0 := eq_true c8; have c8b1 := decide_eq_true c8
     try have c8b2 : (9223372036854775807 < a0_0.size + 1) = False := eq_false (Nat.not_lt.2 c8)
     by_cases c9 : (a0_0 ++ (⟨#[32]⟩ : ByteArray)).size + t345.size ≤ 9223372036854775807
     ·rw [if_pos c9] at H; have c9b0 := eq_true c9; have c9b1 := decide_eq_true c9
      try have c9b2 : (9223372036854775807 < (a0_0 ++ (⟨#[32]⟩ : ByteArray)).size + t345.size) = False := eq_false (Nat.not_lt.2 c9)
      try have c9b9 : (9223372036854775807 < a0_0.size + 1 + t345.size) = False := eq_false (Nat.not_lt.2 (by have z_ := c9; simp only [ByteArray.size_append] at z_; exact z_))
      try have c9b3 : (9223372036854775807 < a0_0.size + 1 + t345.size) = False := eq_false (Nat.not_lt.2 (by have z_ := c9; rw [ByteArray.size_append] at z_; exact z_))
      by_cases c10 : ((a0_0 ++ (⟨#[32]⟩ : ByteArray)) ++ t345).size + 1 ≤ 9223372036854775807
      ·rw [if_pos c10] at H; have c10b0 := eq_true c10; have c10b1 := decide_eq_true c10
       try have c10b2 : (9223372036854775807 < ((a0_0 ++ (⟨#[32]⟩ : ByteArray)) ++ t345).size + 1) = False := eq_false (Nat.not_lt.2 c10)
       try have c10b9 : (9223372036854775807 < a0_0.size + 1 + t345.size + 1) = False := eq_false (Nat.not_lt.2 (by have z_ := c10; simp only [ByteArray.size_append] at z_; exact z_))
       by_cases c11 : (((a0_0 ++ (⟨#[32]⟩ : ByteArray)) ++ t345) ++ (⟨#[32]⟩ : ByteArray)).size + t338.size ≤ 9223372036854775807
       ·rw [if_pos c11] at H; have c11b0 := eq_true c11; have c11b1 := decide_eq_true c11
        try have c11b2 : (9223372036854775807 < (((a0_0 ++ (⟨#[32]⟩ : ByteArray)) ++ t345) ++ (⟨#[32]⟩ : ByteArray)).size + t338.size) = False := eq_false (Nat.not_lt.2 c11)
        try have c11b9 : (9223372036854775807 < a0_0.size + 1 + t345.size + 1 + t338.size) = False := eq_false (Nat.not_lt.2 (by have z_ := c11; simp only [ByteArray.size_append] at z_; exact z_))
        by_cases c12 : ((((a0_0 ++ (⟨#[32]⟩ : ByteArray)) ++ t345) ++ (⟨#[32]⟩ : ByteArray)) ++ t338).size + t339.size ≤ 9223372036854775807
        ·rw [if_pos c12] at H; have c12b0 := eq_true c12; have c12b1 := decide_eq_true c12
         try have c12b2 : (9223372036854775807 < ((((a0_0 ++ (⟨#[32]⟩ : ByteArray)) ++ t345) ++ (⟨#[32]⟩ : ByteArray)) ++ t338).size + t339.size) = False := eq_false (Nat.not_lt.2 c12)
         try have c12b9 : (9223372036854775807 < a0_0.size + 1 + t345.size + 1 + t338.size + t339.size) = False := eq_false (Nat.not_lt.2 (by have z_ := c12; simp only [ByteArray.size_append] at z_; exact z_))
         simp only [Option.some.injEq, Prod.mk.injEq] at H; obtain ⟨rfl, rfl⟩ := H
         go_enter Tryz.func25, Tryz.ntmps25
         go_wp2_with (first | ((with_reducible refine gate_dst (N := 1) rfl ?_); refine box_event ?hg (N := 1) ?hd (cs := #[.string a0_0, .string a0_1, .int .i64 a0_2, .string a0_3, .int .i64 a0_4, .slice A0_5 l0_5.length c0_5, .string a0_6]) (t := 26) ?hr ?_; (case hd => rfl); (case hg => rfl); (case hr => exact zG); intro gb337 hg w13 hbox hb; have BK337 := aM hbox; have GW337 := aM (by rw [hg]; exact (below_size zB) : w.heap.size ≤ gb337); replace HB := aM (below_step zB hb); have GE337 := GW337; clear hb hbox hg; obtain ⟨_, _, _, _, _, _, _, _, _, _, _, _, _, _⟩ := cz7 BK337.out) | ((with_reducible refine gate_callee (f := 44) rfl ?_); refine goesL_ (some 13) rfl rfl Tryz.func44 (by kernel_rfl) rfl #[.string a0_1] rfl zL ?_; (with_reducible refine (lockageref13_Normal.calls k a0_1 t338 t339 t340 _ A2.out).mono ?_); rintro e w15 ⟨rfl, hb⟩; refine ⟨_, rfl, ?_⟩; replace BK337 := aM (zX BK337.out hb); replace HB := aM (below_step zB hb); clear hb; obtain ⟨_, _, _, _, _, _, _, _, _, _, _, _, _, _⟩ := cz7 BK337.out) | ((with_reducible refine gate_callee (f := 21) rfl ?_); refine goesL_ (some 23) rfl rfl Tryz.func21 (by kernel_rfl) rfl #[.slice A0_5 l0_5.length c0_5, .string (⟨#[104, 111, 115, 116]⟩ : ByteArray)] rfl zL ?_; (with_reducible refine (lockageref05_Get.calls k _ _ l0_5 (⟨#[104, 111, 115, 116]⟩ : ByteArray) t341 _ ?side1 ?side2 A4.out).mono ?_); (case side1 => exact zC (Kd.C_below HR0_5.out HB.out)); (case side2 => exact HC0_5.out); rintro e w17 ⟨v342, rfl, ho0, hb⟩; refine ⟨_, rfl, ?_⟩; have HO343 := aM (Kd.R_lower ho0 (below_size zB)); replace BK337 := aM (zX BK337.out hb); replace HB := aM (below_step zB hb); clear hb ho0; obtain ⟨Ao18, co18, eo18⟩ := Kd.R_slice HO343.out; subst eo18; have p344 : 0 ≤ (0 : Int) := (by omega); have q344 : 0 < (t341.length : Int) := of_decide_eq_true zA; obtain ⟨ad344, e344, hx344_0⟩ := Kd.at_string (Kd.R_reads' HO343.out).2.2 0 p344 q344; cases e344; have qi344 : (0 < t341.length) = True := eq_true (by omega); (try rw [show ((0 : Int)).toNat = 0 from rfl] at hx344_0); (try rw [Addr.add_zero'] at hx344_0); replace p344 := eq_true p344; replace q344 := eq_true q344) | ((with_reducible refine gate_callee (f := 19) rfl ?_); refine goesL_ (some 30) rfl rfl Tryz.func19 (by kernel_rfl) rfl #[.string (rdOf ByteArray.empty t341 0)] rfl zL ?_; (with_reducible refine (lockageref05_Lower.calls k (rdOf ByteArray.empty t341 0) t345 _ A7.out).mono ?_); rintro e w19 ⟨rfl, hb⟩; refine ⟨_, rfl, ?_⟩; replace HO343 := aM (Kd.R_below (zO HO343.out) hb); replace BK337 := aM (zX BK337.out hb); replace HB := aM (below_step zB hb); clear hb; obtain ⟨_, _, _, _, _, _, _, _, _, _, _, _, _, _⟩ := cz7 BK337.out))
         go_ret2
         exact ⟨zE, zB⟩
        ·exact zf c12 H
       ·exact zf c11 H
      ·exact zf c10 H
     ·exact zf c9 H
    ·exact zf c8 H
   ·exact zf c6 H
  ·rw [if_neg c5] at H; have c5b0 := decide_eq_false c5; have c5b1 : decide (0 < t341.length) = false := decide_eq_false (by omega); clear c5; by_cases c21 : a0_0.size + 1 ≤ 9223372036854775807
   ·rw [if_pos c21] at H; have c21b0 := eq_true c21; have c21b1 := decide_eq_true c21
    try have c21b2 : (9223372036854775807 < a0_0.size + 1) = False := eq_false (Nat.not_lt.2 c21)
    by_cases c22 : (a0_0 ++ (⟨#[32]⟩ : ByteArray)).size + 0 ≤ 9223372036854775807
    ·rw [if_pos c22] at H; have c22b0 := eq_true c22; have c22b1 := decide_eq_true c22
     try have c22b2 : (9223372036854775807 < (a0_0 ++ (⟨#[32]⟩ : ByteArray)).size + 0) = False := eq_false (Nat.not_lt.2 c22)
     try have c22b9 : (9223372036854775807 < a0_0.size + 1 + 0) = False := eq_false (Nat.not_lt.2 (by have z_ := c22; simp only [ByteArray.size_append] at z_; exact z_))
     try have c22b5 : (9223372036854775807 < a0_0.size + 1 + 0) = False := eq_false (Nat.not_lt.2 (by have z_ := c22; rw [ByteArray.size_append] at z_; exact z_))
     by_cases c23 : ((a0_0 ++ (⟨#[32]⟩ : ByteArray)) ++ (⟨#[]⟩ : ByteArray)).size + 1 ≤ 9223372036854775807
     ·rw [if_pos c23] at H; have c23b0 := eq_true c23; have c23b1 := decide_eq_true c23
      try have c23b2 : (9223372036854775807 < ((a0_0 ++ (⟨#[32]⟩ : ByteArray)) ++ (⟨#[]⟩ : ByteArray)).size + 1) = False := eq_false (Nat.not_lt.2 c23)
      try have c23b9 : (9223372036854775807 < a0_0.size + 1 + 0 + 1) = False := eq_false (Nat.not_lt.2 (by have z_ := c23; simp only [ByteArray.size_append] at z_; exact z_))
      by_cases c24 : (((a0_0 ++ (⟨#[32]⟩ : ByteArray)) ++ (⟨#[]⟩ : ByteArray)) ++ (⟨#[32]⟩ : ByteArray)).size + t338.size ≤ 9223372036854775807
      ·rw [if_pos c24] at H; have c24b0 := eq_true c24; have c24b1 := decide_eq_true c24
       try have c24b2 : (9223372036854775807 < (((a0_0 ++ (⟨#[32]⟩ : ByteArray)) ++ (⟨#[]⟩ : ByteArray)) ++ (⟨#[32]⟩ : ByteArray)).size + t338.size) = False := eq_false (Nat.not_lt.2 c24)
       try have c24b9 : (9223372036854775807 < a0_0.size + 1 + 0 + 1 + t338.size) = False := eq_false (Nat.not_lt.2 (by have z_ := c24; simp only [ByteArray.size_append] at z_; exact z_))
       by_cases c25 : ((((a0_0 ++ (⟨#[32]⟩ : ByteArray)) ++ (⟨#[]⟩ : ByteArray)) ++ (⟨#[32]⟩ : ByteArray)) ++ t338).size + t339.size ≤ 9223372036854775807
       ·rw [if_pos c25] at H; have c25b0 := eq_true c25; have c25b1 := decide_eq_true c25
        try have c25b2 : (9223372036854775807 < ((((a0_0 ++ (⟨#[32]⟩ : ByteArray)) ++ (⟨#[]⟩ : ByteArray)) ++ (⟨#[32]⟩ : ByteArray)) ++ t338).size + t339.size) = False := eq_false (Nat.not_lt.2 c25)
        try have c25b9 : (9223372036854775807 < a0_0.size + 1 + 0 + 1 + t338.size + t339.size) = False := eq_false (Nat.not_lt.2 (by have z_ := c25; simp only [ByteArray.size_append] at z_; exact z_))
        simp only [Option.some.injEq, Prod.mk.injEq] at H; obtain ⟨rfl, rfl⟩ := H
        go_enter Tryz.func25, Tryz.ntmps25
        go_wp2_with (first | ((with_reducible refine gate_dst (N := 1) rfl ?_); refine box_event ?hg (N := 1) ?hd (cs := #[.string a0_0, .string a0_1, .int .i64 a0_2, .string a0_3, .int .i64 a0_4, .slice A0_5 l0_5.length c0_5, .string a0_6]) (t := 26) ?hr ?_; (case hd => rfl); (case hg => rfl); (case hr => exact zG); intro gb337 hg w26 hbox hb; have BK337 := aM hbox; have GW337 := aM (by rw [hg]; exact (below_size zB) : w.heap.size ≤ gb337); replace HB := aM (below_step zB hb); have GE337 := GW337; clear hb hbox hg; obtain ⟨_, _, _, _, _, _, _, _, _, _, _, _, _, _⟩ := cz7 BK337.out) | ((with_reducible refine gate_callee (f := 44) rfl ?_); refine goesL_ (some 13) rfl rfl Tryz.func44 (by kernel_rfl) rfl #[.string a0_1] rfl zL ?_; (with_reducible refine (lockageref13_Normal.calls k a0_1 t338 t339 t340 _ A2.out).mono ?_); rintro e w28 ⟨rfl, hb⟩; refine ⟨_, rfl, ?_⟩; replace BK337 := aM (zX BK337.out hb); replace HB := aM (below_step zB hb); clear hb; obtain ⟨_, _, _, _, _, _, _, _, _, _, _, _, _, _⟩ := cz7 BK337.out) | ((with_reducible refine gate_callee (f := 21) rfl ?_); refine goesL_ (some 23) rfl rfl Tryz.func21 (by kernel_rfl) rfl #[.slice A0_5 l0_5.length c0_5, .string (⟨#[104, 111, 115, 116]⟩ : ByteArray)] rfl zL ?_; (with_reducible refine (lockageref05_Get.calls k _ _ l0_5 (⟨#[104, 111, 115, 116]⟩ : ByteArray) t341 _ ?side1 ?side2 A4.out).mono ?_); (case side1 => exact zC (Kd.C_below HR0_5.out HB.out)); (case side2 => exact HC0_5.out); rintro e w30 ⟨v342, rfl, ho0, hb⟩; refine ⟨_, rfl, ?_⟩; have HO343 := aM (Kd.R_lower ho0 (below_size zB)); replace BK337 := aM (zX BK337.out hb); replace HB := aM (below_step zB hb); clear hb ho0; obtain ⟨Ao31, co31, eo31⟩ := Kd.R_slice HO343.out; subst eo31; obtain ⟨_, _, _, _, _, _, _, _, _, _, _, _, _, _⟩ := cz7 BK337.out))
        go_ret2
        exact ⟨zE, zB⟩
       ·exact zf c25 H
      ·exact zf c24 H
     ·exact zf c23 H
    ·exact zf c22 H
   ·exact zf c21 H
 ·rw [if_neg c3] at H; obtain ⟨c3b0, c3b1⟩ := ze c3; simp only [Option.some.injEq, Prod.mk.injEq] at H; obtain ⟨rfl, rfl⟩ := H
  go_enter Tryz.func25, Tryz.ntmps25
  go_wp2_with (first | ((with_reducible refine gate_dst (N := 1) rfl ?_); refine box_event ?hg (N := 1) ?hd (cs := #[.string a0_0, .string a0_1, .int .i64 a0_2, .string a0_3, .int .i64 a0_4, .slice A0_5 l0_5.length c0_5, .string a0_6]) (t := 26) ?hr ?_; (case hd => rfl); (case hg => rfl); (case hr => exact zG); intro gb337 hg w33 hbox hb; have BK337 := aM hbox; have GW337 := aM (by rw [hg]; exact (below_size zB) : w.heap.size ≤ gb337); replace HB := aM (below_step zB hb); have GE337 := GW337; clear hb hbox hg; obtain ⟨_, _, _, _, _, _, _, _, _, _, _, _, _, _⟩ := cz7 BK337.out) | ((with_reducible refine gate_callee (f := 44) rfl ?_); refine goesL_ (some 13) rfl rfl Tryz.func44 (by kernel_rfl) rfl #[.string a0_1] rfl zL ?_; (with_reducible refine (lockageref13_Normal.calls k a0_1 t338 t339 t340 _ A2.out).mono ?_); rintro e w35 ⟨rfl, hb⟩; refine ⟨_, rfl, ?_⟩; replace BK337 := aM (zX BK337.out hb); replace HB := aM (below_step zB hb); clear hb))
  go_ret2
  exact ⟨zE, zB⟩

end Go.Proofs.YthmallhjbhphgaaGreatDoor.P
