/- Printed by a program of the session out of the translation: plain Lean functions, each with the contract that the Go function computes it. -/
import Derived.Test.YthmallhjbhphgaaGreatDoorHZm
import Derived.Test.YthmallhjbhphgaaGreatDoorHZ
import Derived.Test.YthmallhjbhphgaaGreatDoorPx0
namespace Go.Proofs.YthmallhjbhphgaaGreatDoor.P
open Go.RowKit Go.Proofs.YthmallhjbhphgaaGreatDoorW.PrintWords Go.Proofs.YthmallhjbhphgaaGreatDoorW.PrintLast Go.Proofs.YthmallhjbhphgaaGreatDoorW.PrintMore
attribute [local go_sem] max2_int min2_int max_two min_two max_three min_three max_four min_four   -- for this text's walks alone
set_option linter.unusedVariables false
set_option linter.unusedSimpArgs false

mutual
def lockageref13_dots.l0 : Nat → List ByteArray → List ByteArray → Int → Option (ByteArray)
 | 0, _, _, _ => none
 | k + 1, x0, x3, x4 => if x4 < (x0.length : Int) then (if 0 ≤ x4 then (if (rdOf ByteArray.empty x0 x4).toList = ([46] : List UInt8) then (lockageref13_dots.j1 k x0 x3 x4 (x4 == (wrap64 ((x0.length : Int) - 1))) true) else (lockageref13_dots.j1 k x0 x3 x4 (x4 == (wrap64 ((x0.length : Int) - 1))) ((rdOf ByteArray.empty x0 x4).toList == ([46, 46] : List UInt8)))) else (none)) else (lockageref13_dots.l1 k x3 (⟨#[]⟩ : ByteArray) 0)
def lockageref13_dots.j1 : Nat → List ByteArray → List ByteArray → Int → Bool → Bool → Option (ByteArray)
 | 0, _, _, _, _, _ => none
 | k + 1, x0, x3, x4, x5, x30 => if x30 = true then (if 0 ≤ x4 then (if x4 < (x0.length : Int) then (if (rdOf ByteArray.empty x0 x4).toList = ([46, 46] : List UInt8) then (lockageref13_dots.j2 k x0 x3 x4 x5 (decide ((x3.length : Int) > 0))) else (lockageref13_dots.j2 k x0 x3 x4 x5 false)) else (none)) else (none)) else (if 0 ≤ x4 then (if x4 < (x0.length : Int) then (if x3.length < 8796093022208 then (lockageref13_dots.l0 k x0 (x3 ++ [rdOf ByteArray.empty x0 x4]) (wrap64 (x4 + 1))) else (none)) else (none)) else (none))
def lockageref13_dots.j2 : Nat → List ByteArray → List ByteArray → Int → Bool → Bool → Option (ByteArray)
 | 0, _, _, _, _, _ => none
 | k + 1, x0, x3, x4, x5, x40 => if x40 = true then (if 0 ≤ (wrap64 ((x3.length : Int) - 1)) then (if (wrap64 ((x3.length : Int) - 1)) ≤ (x3.length : Int) then (lockageref13_dots.j3 k x0 (x3.take ((wrap64 ((x3.length : Int) - 1)) : Int).toNat) x4 x5) else (none)) else (none)) else (lockageref13_dots.j3 k x0 x3 x4 x5)
def lockageref13_dots.j3 : Nat → List ByteArray → List ByteArray → Int → Bool → Option (ByteArray)
 | 0, _, _, _, _ => none
 | k + 1, x0, x3, x4, x5 => if x5 = true then (if x3.length < 8796093022208 then (lockageref13_dots.l0 k x0 (x3 ++ [(⟨#[]⟩ : ByteArray)]) (wrap64 (x4 + 1))) else (none)) else (lockageref13_dots.l0 k x0 x3 (wrap64 (x4 + 1)))
def lockageref13_dots.l1 : Nat → List ByteArray → ByteArray → Int → Option (ByteArray)
 | 0, _, _, _ => none
 | k + 1, x3, x6, x7 => if x7 < (x3.length : Int) then (if x6.size + 1 ≤ 9223372036854775807 then (if 0 ≤ x7 then (if (x6 ++ (⟨#[47]⟩ : ByteArray)).size + (rdOf ByteArray.empty x3 x7).size ≤ 9223372036854775807 then (lockageref13_dots.l1 k x3 ((x6 ++ (⟨#[47]⟩ : ByteArray)) ++ (rdOf ByteArray.empty x3 x7)) (wrap64 (x7 + 1))) else (none)) else (none)) else (none)) else (some x6)
end
def lockageref13_dots.f (k : Nat) (l0 : List ByteArray) : Option (ByteArray) := lockageref13_dots.l0 k l0 ([] : List ByteArray) 0
theorem lockageref13_dots.mono_l : ∀ k, (∀ y0 y1 y2, LeO (lockageref13_dots.l0 k y0 y1 y2) (lockageref13_dots.l0 (k + 1) y0 y1 y2)) ∧ (∀ y0 y1 y2 y3 y4, LeO (lockageref13_dots.j1 k y0 y1 y2 y3 y4) (lockageref13_dots.j1 (k + 1) y0 y1 y2 y3 y4)) ∧ (∀ y0 y1 y2 y3 y4, LeO (lockageref13_dots.j2 k y0 y1 y2 y3 y4) (lockageref13_dots.j2 (k + 1) y0 y1 y2 y3 y4)) ∧ (∀ y0 y1 y2 y3, LeO (lockageref13_dots.j3 k y0 y1 y2 y3) (lockageref13_dots.j3 (k + 1) y0 y1 y2 y3)) ∧ (∀ y0 y1 y2, LeO (lockageref13_dots.l1 k y0 y1 y2) (lockageref13_dots.l1 (k + 1) y0 y1 y2))
 | 0 => ⟨fun _ _ _ r h => by simp [lockageref13_dots.l0] at h, fun _ _ _ _ _ r h => by simp [lockageref13_dots.j1] at h, fun _ _ _ _ _ r h => by simp [lockageref13_dots.j2] at h, fun _ _ _ _ r h => by simp [lockageref13_dots.j3] at h, fun _ _ _ r h => by simp [lockageref13_dots.l1] at h⟩
 | k + 1 => by
  obtain ⟨ih0, ih1, ih2, ih3, ih4⟩ := lockageref13_dots.mono_l k
  refine ⟨?_, ?_, ?_, ?_, ?_⟩
  ·intro y0 y1 y2
   unfold lockageref13_dots.l0; exact zM
  ·intro y0 y1 y2 y3 y4
   unfold lockageref13_dots.j1; exact zM
  ·intro y0 y1 y2 y3 y4
   unfold lockageref13_dots.j2; exact zM
  ·intro y0 y1 y2 y3
   unfold lockageref13_dots.j3; exact zM
  ·intro y0 y1 y2
   unfold lockageref13_dots.l1; exact zM
theorem lockageref13_dots.mono : ∀ a0 k, LeO (lockageref13_dots.f k a0) (lockageref13_dots.f (k + 1) a0) := by
 intro a0 k
 obtain ⟨ih0, ih1, ih2, ih3, ih4⟩ := lockageref13_dots.mono_l k
 unfold lockageref13_dots.f; exact zM
set_option maxHeartbeats 8000000 in
set_option maxRecDepth 100000 in
theorem lockageref13_dots.calls (k : Nat) (A0 : Option Addr) (c0 : Nat) (l0 : List ByteArray) (r : ByteArray) (w : World) (hr0 : Kd.C Kd.string w A0 l0.length l0) (hc0 : l0.length ≤ c0) (h : lockageref13_dots.f k l0 = some r) :
  Calls Tryz.prog 63 #[.slice A0 l0.length c0] w fun e w' => e = .returned (.string r) ∧ Below w.heap.size w w' := by
 have HR0 := aM hr0; have HC0 := aM hc0; clear hr0 hc0; have HB := aM (Below.refl w.heap.size w); have H : (lockageref13_dots.l0 k l0 ([] : List ByteArray) 0) = some r := h; clear h; have H' := aM H; clear H
 go_enter Tryz.func63, Tryz.ntmps63
 go_wp2
 go_loopg [3, 4] k (fun kq v3 v4 w' => ∃ (x3_1 : List ByteArray) (x4_1 : Int), v4 = .int .i64 x4_1 ∧ Aside0 (lockageref13_dots.l0 kq l0 x3_1 x4_1 = some r) ∧ Aside0 (kq ≤ k) ∧ Aside0 (Kd.R Kd.string 9 w' w.heap.size (fun _ => True) v3 x3_1) ∧ Aside0 (Below w.heap.size w w'))
 case atStart => exact ⟨(([] : List ByteArray)), (0), zR, H', ⟨Nat.le_refl _⟩, ⟨by first | exact Kd.R_nil _ _ _ _ _ | exact Kd.N_nil _ _ _ _ _ | exact Kd.V_nil _ _ _ _ _ | exact Kd.Q_nil _ _ _ _ _ | exact Kd.S_nil _ _ _ _ _⟩, ⟨zB⟩⟩
 case round =>
  clear H'; obtain ⟨x3_1, x4_1, rfl, HA, HK1, HO_3, HB⟩ := hrel; cases gk with
  | zero => exact absurd HA.out (by simp [lockageref13_dots.l0])
  | succ k1 =>
   have H := HA.out; clear HA; simp only [lockageref13_dots.l0] at H; by_cases c2 : x4_1 < (l0.length : Int)
   ·rw [if_pos c2] at H; have c2b0 := decide_eq_true c2; clear c2; have HC3 := aM H; clear H
    go_upto_region 6 with (fail)
    go_cut [30] (fun v30 wc => ∃ (kq : Nat) (x30_2 : Bool), v30 = .bool x30_2 ∧ Aside0 (lockageref13_dots.j1 kq l0 x3_1 x4_1 (x4_1 == (wrap64 ((l0.length : Int) - 1))) x30_2 = some r) ∧ Aside0 (kq ≤ k1) ∧ Aside0 (Kd.R Kd.string 9 wc w.heap.size (fun _ => True) u3 x3_1) ∧ Aside0 (Below w.heap.size w wc))
    case first =>
     have H := HC3.out; clear HC3; by_cases c4 : 0 ≤ x4_1
     ·rw [if_pos c4] at H; have c4b0 := decide_eq_true c4; clear c4
      (first | rw [c4b0] | (simp only [i64_w, i32_w]; rw [c4b0]) | skip)
      by_cases c5 : (rdOf ByteArray.empty l0 x4_1).toList = ([46] : List UInt8)
      ·rw [if_pos c5] at H; obtain ⟨c5b0, c5b1⟩ := zd c5; clear c5; have H' := aM H; clear H; have p311 : 0 ≤ (x4_1 : Int) := of_decide_eq_true zA; have q311 : x4_1 < (l0.length : Int) := of_decide_eq_true zA; obtain ⟨ad311, e311, hx311_0⟩ := Kd.at_string HR0.out x4_1 p311 q311; cases e311; replace hx311_0 := (HB.out.cell (World.block_lt_of_cell? w _ hx311_0)).trans hx311_0; replace p311 := eq_true p311; replace q311 := eq_true q311
       go_wp2
       go_meet
       case rel => exact ⟨_, (true), zR, H', ⟨by have := HK1.out; first | omega | exact Nat.le_refl _⟩, ⟨zO HO_3.out⟩, ⟨zB⟩⟩
      ·rw [if_neg c5] at H; obtain ⟨c5b0, c5b1⟩ := ze c5; have H' := aM H; clear H; have p311 : 0 ≤ (x4_1 : Int) := of_decide_eq_true zA; have q311 : x4_1 < (l0.length : Int) := of_decide_eq_true zA; obtain ⟨ad311, e311, hx311_0⟩ := Kd.at_string HR0.out x4_1 p311 q311; cases e311; replace hx311_0 := (HB.out.cell (World.block_lt_of_cell? w _ hx311_0)).trans hx311_0; replace p311 := eq_true p311; replace q311 := eq_true q311; have p312 : 0 ≤ (x4_1 : Int) := of_decide_eq_true zA; have q312 : x4_1 < (l0.length : Int) := of_decide_eq_true zA; obtain ⟨ad312, e312, hx312_0⟩ := Kd.at_string HR0.out x4_1 p312 q312; obtain rfl : ad311 = ad312 := (by injection e312); replace hx312_0 := (HB.out.cell (World.block_lt_of_cell? w _ hx312_0)).trans hx312_0; replace p312 := eq_true p312; replace q312 := eq_true q312
       go_wp2
       go_meet
       case rel => exact ⟨_, (((rdOf ByteArray.empty l0 x4_1).toList == ([46, 46] : List UInt8))), zR, H', ⟨by have := HK1.out; first | omega | exact Nat.le_refl _⟩, ⟨zO HO_3.out⟩, ⟨zB⟩⟩
     ·exact zf c4 H
    case rest =>
     clear HC3; (try clear c2); (try clear c2b0); (try clear p2); (try clear p3); (try clear q3); (try clear hx3); (try clear c4); (try clear c4b0); (try clear c5); (try clear c5b0); (try clear c5b1); (try clear hx311_0); (try clear hx312_0); (try clear p311); (try clear p312); (try clear q311); (try clear q312); obtain ⟨kq, x30_2, rfl, HA, HJ2, HO_3, HB⟩ := hcut; cases kq with
     | zero => exact absurd HA.out (by simp [lockageref13_dots.j1])
     | succ kj2 =>
      have H := HA.out; clear HA; simp only [lockageref13_dots.j1] at H; by_cases c6 : x30_2 = true
      ·subst c6; rw [if_pos rfl] at H; have HC7 := aM H; clear H
       go_upto_region 7 with (fail)
       go_cut [40] (fun v40 wc => ∃ (kq : Nat) (x40_6 : Bool), v40 = .bool x40_6 ∧ Aside0 (lockageref13_dots.j2 kq l0 x3_1 x4_1 (x4_1 == (wrap64 ((l0.length : Int) - 1))) x40_6 = some r) ∧ Aside0 (kq ≤ kj2) ∧ Aside0 (Kd.R Kd.string 9 wc w.heap.size (fun _ => True) u3 x3_1) ∧ Aside0 (Below w.heap.size w wc))
       case first =>
        have H := HC7.out; clear HC7; by_cases c8 : 0 ≤ x4_1
        ·rw [if_pos c8] at H; have c8b0 := decide_eq_true c8; clear c8
         (first | rw [c8b0] | (simp only [i64_w, i32_w]; rw [c8b0]) | skip)
         by_cases c9 : x4_1 < (l0.length : Int)
         ·rw [if_pos c9] at H; have c9b0 := decide_eq_true c9; clear c9; by_cases c10 : (rdOf ByteArray.empty l0 x4_1).toList = ([46, 46] : List UInt8)
          ·rw [if_pos c10] at H; obtain ⟨c10b0, c10b1⟩ := zd c10; clear c10; have H' := aM H; clear H; have p313 : 0 ≤ (x4_1 : Int) := of_decide_eq_true zA; have q313 : x4_1 < (l0.length : Int) := of_decide_eq_true zA; obtain ⟨ad313, e313, hx313_0⟩ := Kd.at_string HR0.out x4_1 p313 q313; cases e313; replace hx313_0 := (HB.out.cell (World.block_lt_of_cell? w _ hx313_0)).trans hx313_0; replace p313 := eq_true p313; replace q313 := eq_true q313; obtain ⟨Ao11, co11, eo11⟩ := Kd.R_slice HO_3.out; subst eo11
           go_wp2
           go_meet
           case rel => exact ⟨_, (decide ((x3_1.length : Int) > 0)), zR, H', ⟨by have := HK1.out; have := HJ2.out; first | omega | exact Nat.le_refl _⟩, ⟨zO HO_3.out⟩, ⟨zB⟩⟩
          ·rw [if_neg c10] at H; obtain ⟨c10b0, c10b1⟩ := ze c10; have H' := aM H; clear H; have p313 : 0 ≤ (x4_1 : Int) := of_decide_eq_true zA; have q313 : x4_1 < (l0.length : Int) := of_decide_eq_true zA; obtain ⟨ad313, e313, hx313_0⟩ := Kd.at_string HR0.out x4_1 p313 q313; cases e313; replace hx313_0 := (HB.out.cell (World.block_lt_of_cell? w _ hx313_0)).trans hx313_0; replace p313 := eq_true p313; replace q313 := eq_true q313
           go_wp2
           go_meet
           case rel => exact ⟨_, (false), zR, H', ⟨by have := HK1.out; have := HJ2.out; first | omega | exact Nat.le_refl _⟩, ⟨zO HO_3.out⟩, ⟨zB⟩⟩
         ·exact zf c9 H
        ·exact zf c8 H
       case rest =>
        clear HC7; (try clear c1); (try clear c2); (try clear c2b0); (try clear p2); (try clear p3); (try clear q3); (try clear hx3); (try clear c4); (try clear c4b0); (try clear c5); (try clear c5b0); (try clear c5b1); (try clear c6); (try clear p6); (try clear c8); (try clear c8b0); (try clear c9); (try clear c9b0); (try clear c10); (try clear c10b0); (try clear c10b1); (try clear hx311_0); (try clear hx312_0); (try clear hx313_0); (try clear p2); (try clear p3); (try clear p311); (try clear p312); (try clear p313); (try clear q3); (try clear q311); (try clear q312); (try clear q313); obtain ⟨kq, x40_6, rfl, HA, HJ6, HO_3, HB⟩ := hcut; cases kq with
        | zero => exact absurd HA.out (by simp [lockageref13_dots.j2])
        | succ kj6 =>
         have H := HA.out; clear HA; simp only [lockageref13_dots.j2] at H; have HC12 := aM H; clear H
         go_upto_if 40 with (fail)
         go_cut [3] (fun v3 wc => ∃ (kq : Nat) (x3_11 : List ByteArray), Aside0 (lockageref13_dots.j3 kq l0 x3_11 x4_1 (x4_1 == (wrap64 ((l0.length : Int) - 1))) = some r) ∧ Aside0 (kq ≤ kj6) ∧ Aside0 (Kd.R Kd.string 9 wc w.heap.size (fun _ => True) v3 x3_11) ∧ Aside0 (Below w.heap.size w wc))
         case first =>
          have H := HC12.out; clear HC12; by_cases c13 : x40_6 = true
          ·subst c13; rw [if_pos rfl] at H; obtain ⟨ji14, hji14⟩ : ∃ j_ : Int, (wrap64 ((x3_1.length : Int) - 1)) = j_ := ⟨_, rfl⟩
           (first | rw [hji14] at H | simp only [hji14] at H)
           have hji14w : (IntKind.i64.wrap ((x3_1.length : Int) - 1)) = ji14 := (i64_w _).trans hji14; by_cases c15 : 0 ≤ (ji14)
           ·rw [if_pos c15] at H; have c15b0 := eq_true c15; have c15b1 := decide_eq_true c15; clear c15; by_cases c16 : (ji14) ≤ (x3_1.length : Int)
            ·rw [if_pos c16] at H; have c16b0 := eq_true c16; have c16b1 := decide_eq_true c16; clear c16; obtain ⟨y314, hy314⟩ : ∃ y_ : List ByteArray, y_ = (x3_1.take ((ji14) : Int).toNat) := ⟨_, rfl⟩; (replace H : (lockageref13_dots.j3 kj6 l0 y314 x4_1 (x4_1 == (wrap64 ((l0.length : Int) - 1)))) = some r := zN hy314 H); have Ny314 := aM hy314; clear hy314; have H' := aM H; clear H; obtain ⟨Ao17, co17, eo17⟩ := Kd.R_slice HO_3.out; subst eo17; have q18 : ((ji14) : Int) ≤ ((x3_1.length : Int) : Int) := of_decide_eq_true zA; obtain ⟨i018, hi018, _, hsz18, _⟩ := info_parts info9; have hcut18 := cut_to (P := Tryz.prog) 27 9 .i64 Tryz.underlying27 hi018 Ao17 x3_1.length co17 (ji14) (of_decide_eq_true zA) q18 (Kd.R_reads' HO_3.out).2.1; have hr18 := Kd.R_take (m := ((ji14) : Int).toNat) HO_3.out (by omega); have hy18 : y314.length = ((ji14) : Int).toNat := (by rw [Ny314.out, List.length_take]; omega); rw [← Ny314.out] at hr18; rw [← hy18] at hr18 hcut18; clear hy18 hi018 hsz18 HO_3; have HO316 := aM hr18; clear hr18; replace q18 := eq_true q18
             go_wp2
             go_meet
             case rel => exact ⟨_, (y314), H', ⟨by have := HK1.out; have := HJ2.out; have := HJ6.out; first | omega | exact Nat.le_refl _⟩, ⟨zO HO316.out⟩, ⟨zB⟩⟩
            ·exact zf c16 H
           ·exact zf c15 H
          ·replace c13 := Bool.eq_false_iff.mpr c13; subst c13; rw [if_neg (show ¬ (false = true) by decide)] at H; have H' := aM H; clear H
           go_wp2
           go_meet
           case rel => exact ⟨_, (x3_1), H', ⟨by have := HK1.out; have := HJ2.out; have := HJ6.out; first | omega | exact Nat.le_refl _⟩, ⟨zO HO_3.out⟩, ⟨zB⟩⟩
         case rest =>
          clear HC12; (try clear c1); (try clear q1); (try clear c2); (try clear c2b0); (try clear p2); (try clear p3); (try clear q3); (try clear hx3); (try clear c4); (try clear c4b0); (try clear c5); (try clear c5b0); (try clear c5b1); (try clear c6); (try clear p6); (try clear c8); (try clear c8b0); (try clear c9); (try clear c9b0); (try clear c10); (try clear c10b0); (try clear c10b1); (try clear c13); (try clear c15); (try clear c15b0); (try clear c15b1); (try clear c16); (try clear c16b0); (try clear c16b1); (try clear q18); (try clear hx311_0); (try clear hx312_0); (try clear hx313_0); (try clear p2); (try clear p3); (try clear p311); (try clear p312); (try clear p313); (try clear p6); (try clear q18); (try clear q3); (try clear q311); (try clear q312); (try clear q313); obtain ⟨kq, x3_11, HA, HJ11, HO_3, HB⟩ := hcut; cases kq with
          | zero => exact absurd HA.out (by simp [lockageref13_dots.j3])
          | succ kj11 =>
           have H := HA.out; clear HA; simp only [lockageref13_dots.j3] at H; by_cases c19 : (x4_1 == (wrap64 ((l0.length : Int) - 1))) = true
           ·rw [if_pos c19] at H; have c19b0 : (x4_1 == (wrap64 ((l0.length : Int) - 1))) = true := c19
            (try (have c19b1 : decide (x4_1 = (wrap64 ((l0.length : Int) - 1))) = true := by simpa using c19))
            (try (have c19b2 : (x4_1 == (wrap64 ((l0.length : Int) - 1))) = true := by simpa using c19))
            clear c19; by_cases c20 : x3_11.length < 8796093022208
            ·rw [if_pos c20] at H; have LMc20 := aM c20; clear c20; obtain ⟨y317, hy317⟩ : ∃ y_ : List ByteArray, y_ = (x3_11 ++ [(⟨#[]⟩ : ByteArray)]) := ⟨_, rfl⟩; (replace H : (lockageref13_dots.l0 kj11 l0 y317 (wrap64 (x4_1 + 1))) = some r := zN hy317 H); have Ny317 := aM hy317; clear hy317; have H' := aM H; clear H
             go_wp2_with (first | ((with_reducible refine gate_builtin (b := .append) (xs := #[.tmp 47, .tmp 48]) rfl ?_); (try (refine gate_guard (by rfl) ?_; dsimp only)); at_builtin; refine Kd.R_append Kd.string (w0 := w) w.heap.size rfl (.tmp 47) (.tmp 48) 27 9 (.string ⟨#[]⟩) 16 rfl Tryz.underlying27 info9 rfl (by decide) (by omega) u3 x3_11 (⟨#[]⟩ : ByteArray) [.string (⟨#[]⟩ : ByteArray)] (fun _ => True) (fun _ => False) rfl rfl ?aP (fun _ hk => hk.elim) ?aF ?aO ?aB ?aS ?aL ?_; (case aP => exact rfl); (case aB => exact zB); (case aF => exact (fun _ _ => trivial)); (case aO => exact zO HO_3.out); (case aS => exact (below_size zB)); (case aL => have := LMc20.out; omega); intro v318 w21 ho hb hg hat; rw [← Ny317.out] at ho; replace HB := aM hb; have HO319 := aM ho; clear HO_3; clear ho hb hg hat))
             go_roundg kj11
             case measure => have := HK1.out; have := HJ2.out; have := HJ6.out; have := HJ11.out; omega
             case rel => exact ⟨(y317), (wrap64 (x4_1 + 1)), zR, H', ⟨by have := HK1.out; have := HJ2.out; have := HJ6.out; have := HJ11.out; omega⟩, ⟨zO HO319.out⟩, ⟨zB⟩⟩
            ·exact zf c20 H
           ·rw [if_neg c19] at H; (have c19b0 : (x4_1 == (wrap64 ((l0.length : Int) - 1))) = false := by simpa using c19)
            (try (have c19b1 : decide (x4_1 = (wrap64 ((l0.length : Int) - 1))) = false := by simpa using c19))
            (try (have c19b2 : (x4_1 == (wrap64 ((l0.length : Int) - 1))) = false := by simpa using c19))
            (try (have c19b3 : ¬ (x4_1 = (wrap64 ((l0.length : Int) - 1))) := by simpa using c19))
            clear c19; have H' := aM H; clear H
            go_wp2
            go_roundg kj11
            case measure => have := HK1.out; have := HJ2.out; have := HJ6.out; have := HJ11.out; omega
            case rel => exact ⟨(x3_11), (wrap64 (x4_1 + 1)), zR, H', ⟨by have := HK1.out; have := HJ2.out; have := HJ6.out; have := HJ11.out; omega⟩, ⟨zO HO_3.out⟩, ⟨zB⟩⟩
      ·replace c6 := Bool.eq_false_iff.mpr c6; subst c6; rw [if_neg (show ¬ (false = true) by decide)] at H; by_cases c22 : 0 ≤ x4_1
       ·rw [if_pos c22] at H; have c22b0 := decide_eq_true c22; clear c22; by_cases c23 : x4_1 < (l0.length : Int)
        ·rw [if_pos c23] at H; have c23b0 := decide_eq_true c23; clear c23; by_cases c24 : x3_1.length < 8796093022208
         ·rw [if_pos c24] at H; have LMc24 := aM c24; clear c24; obtain ⟨y321, hy321⟩ : ∃ y_ : List ByteArray, y_ = (x3_1 ++ [rdOf ByteArray.empty l0 x4_1]) := ⟨_, rfl⟩; (replace H : (lockageref13_dots.l0 kj2 l0 y321 (wrap64 (x4_1 + 1))) = some r := zN hy321 H); have Ny321 := aM hy321; clear hy321; have H' := aM H; clear H; have p320 : 0 ≤ (x4_1 : Int) := of_decide_eq_true zA; have q320 : x4_1 < (l0.length : Int) := of_decide_eq_true zA; obtain ⟨ad320, e320, hx320_0⟩ := Kd.at_string HR0.out x4_1 p320 q320; cases e320; replace hx320_0 := (HB.out.cell (World.block_lt_of_cell? w _ hx320_0)).trans hx320_0; replace p320 := eq_true p320; replace q320 := eq_true q320
          go_wp2_with (first | ((with_reducible refine gate_builtin (b := .append) (xs := #[.tmp 50, .tmp 55]) rfl ?_); (try (refine gate_guard (by rfl) ?_; dsimp only)); at_builtin; refine Kd.R_append Kd.string (w0 := w) w.heap.size rfl (.tmp 50) (.tmp 55) 27 9 (.string ⟨#[]⟩) 16 rfl Tryz.underlying27 info9 rfl (by decide) (by omega) u3 x3_1 (rdOf ByteArray.empty l0 x4_1) [.string (rdOf ByteArray.empty l0 x4_1)] (fun _ => True) (fun _ => False) rfl rfl ?aP (fun _ hk => hk.elim) ?aF ?aO ?aB ?aS ?aL ?_; (case aP => exact rfl); (case aB => exact zB); (case aF => exact (fun _ _ => trivial)); (case aO => exact zO HO_3.out); (case aS => exact (below_size zB)); (case aL => have := LMc24.out; omega); intro v322 w25 ho hb hg hat; rw [← Ny321.out] at ho; replace HB := aM hb; have HO323 := aM ho; clear HO_3; clear ho hb hg hat))
          go_roundg kj2
          case measure => have := HK1.out; have := HJ2.out; omega
          case rel => exact ⟨(y321), (wrap64 (x4_1 + 1)), zR, H', ⟨by have := HK1.out; have := HJ2.out; omega⟩, ⟨zO HO323.out⟩, ⟨zB⟩⟩
         ·exact zf c24 H
        ·exact zf c23 H
       ·exact zf c22 H
   ·rw [if_neg c2] at H; have c2b0 := decide_eq_false c2; clear c2; have H' := aM H; clear H
    go_wp2
    go_loopg [6, 7] k1 (fun kq v6 v7 w' => ∃ (x6_2 : ByteArray) (x7_2 : Int), v6 = .string x6_2 ∧ v7 = .int .i64 x7_2 ∧ Aside0 (lockageref13_dots.l1 kq x3_1 x6_2 x7_2 = some r) ∧ Aside0 (kq ≤ k1) ∧ Aside0 (Kd.R Kd.string 9 w' w.heap.size (fun _ => True) u3 x3_1) ∧ Aside0 (Below w.heap.size w w'))
    case atStart => exact ⟨((⟨#[]⟩ : ByteArray)), (0), zR, zR, H', ⟨Nat.le_refl _⟩, ⟨zO HO_3.out⟩, ⟨zB⟩⟩
    case round =>
     clear H'; (try clear c1); (try clear q1); (try clear c2); (try clear c2b0); (try clear p2); (try clear p3); (try clear q3); (try clear hx3); (try clear c4); (try clear c4b0); (try clear c5); (try clear c5b0); (try clear c5b1); (try clear c6); (try clear p6); (try clear c8); (try clear c8b0); (try clear c9); (try clear c9b0); (try clear c10); (try clear c10b0); (try clear c10b1); (try clear c13); (try clear c15); (try clear c15b0); (try clear c15b1); (try clear c16); (try clear c16b0); (try clear c16b1); (try clear q18); (try clear c19); (try clear c19b0); (try clear c19b1); (try clear c19b2); (try clear c20); (try clear c22); (try clear c22b0); (try clear c23); (try clear c23b0); (try clear c24); (try clear hx311_0); (try clear hx312_0); (try clear hx313_0); (try clear hx320_0); (try clear p2); (try clear p3); (try clear p311); (try clear p312); (try clear p313); (try clear p320); (try clear p6); (try clear q1); (try clear q18); (try clear q3); (try clear q311); (try clear q312); (try clear q313); (try clear q320); obtain ⟨x6_2, x7_2, rfl, rfl, HA, HK2, HO_3, HB⟩ := hrel; cases gk with
     | zero => exact absurd HA.out (by simp [lockageref13_dots.l1])
     | succ k2 =>
      have H := HA.out; clear HA; simp only [lockageref13_dots.l1] at H; by_cases c26 : x7_2 < (x3_1.length : Int)
      ·rw [if_pos c26] at H; have c26b0 := decide_eq_true c26; clear c26; by_cases c27 : x6_2.size + 1 ≤ 9223372036854775807
       ·rw [if_pos c27] at H; have c27b0 := eq_true c27; have c27b1 := decide_eq_true c27
        try have c27b2 : (9223372036854775807 < x6_2.size + 1) = False := eq_false (Nat.not_lt.2 c27)
        by_cases c28 : 0 ≤ x7_2
        ·rw [if_pos c28] at H; have c28b0 := decide_eq_true c28; clear c28; by_cases c29 : (x6_2 ++ (⟨#[47]⟩ : ByteArray)).size + (rdOf ByteArray.empty x3_1 x7_2).size ≤ 9223372036854775807
         ·rw [if_pos c29] at H; have c29b0 := eq_true c29; have c29b1 := decide_eq_true c29
          try have c29b2 : (9223372036854775807 < (x6_2 ++ (⟨#[47]⟩ : ByteArray)).size + (rdOf ByteArray.empty x3_1 x7_2).size) = False := eq_false (Nat.not_lt.2 c29)
          try have c29b9 : (9223372036854775807 < x6_2.size + 1 + (rdOf ByteArray.empty x3_1 x7_2).size) = False := eq_false (Nat.not_lt.2 (by have z_ := c29; simp only [ByteArray.size_append] at z_; exact z_))
          try have c29b3 : (9223372036854775807 < x6_2.size + 1 + (rdOf ByteArray.empty x3_1 x7_2).size) = False := eq_false (Nat.not_lt.2 (by have z_ := c29; rw [ByteArray.size_append] at z_; exact z_))
          have H' := aM H; clear H; obtain ⟨Ao30, co30, eo30⟩ := Kd.R_slice HO_3.out; subst eo30; have p324 : 0 ≤ (x7_2 : Int) := of_decide_eq_true zA; have q324 : x7_2 < (x3_1.length : Int) := of_decide_eq_true zA; obtain ⟨ad324, e324, hx324_0⟩ := Kd.at_string (Kd.R_reads' HO_3.out).2.2 x7_2 p324 q324; cases e324; replace p324 := eq_true p324; replace q324 := eq_true q324
          go_wp2
          go_roundg k2
          case measure => have := HK1.out; have := HK2.out; omega
          case rel => exact ⟨((x6_2 ++ (⟨#[47]⟩ : ByteArray)) ++ (rdOf ByteArray.empty x3_1 x7_2)), (wrap64 (x7_2 + 1)), zR, zR, H', ⟨by have := HK1.out; have := HK2.out; omega⟩, ⟨zO HO_3.out⟩, ⟨zB⟩⟩
         ·exact zf c29 H
        ·exact zf c28 H
       ·exact zf c27 H
      ·rw [if_neg c26] at H; have c26b0 := decide_eq_false c26; clear c26; obtain rfl := Option.some.inj H; obtain ⟨Ao31, co31, eo31⟩ := Kd.R_slice HO_3.out; subst eo31
       go_wp2
       go_ret
       exact ⟨zE, zB⟩

def lockageref13_Segments.l0 : Nat → ByteArray → List ByteArray → Int → Int → Option (List ByteArray)
 | 0, _, _, _, _ => none
 | k + 1, x0, x3, x4, x5 => if x5 ≤ (x0.size : Int) then (if x5 = (x0.size : Int) then (if 0 ≤ x4 then (if x4 ≤ x5 then (if x3.length < 8796093022208 then (lockageref13_Segments.l0 k x0 (x3 ++ [x0.extract (x4 : Int).toNat (x5 : Int).toNat]) (wrap64 (x5 + 1)) (wrap64 (x5 + 1))) else (none)) else (none)) else (none)) else (if 0 ≤ x5 then (if x5 < (x0.size : Int) then (if (bt x0 x5) = 47 then (if 0 ≤ x4 then (if x4 ≤ x5 then (if x3.length < 8796093022208 then (lockageref13_Segments.l0 k x0 (x3 ++ [x0.extract (x4 : Int).toNat (x5 : Int).toNat]) (wrap64 (x5 + 1)) (wrap64 (x5 + 1))) else (none)) else (none)) else (none)) else (lockageref13_Segments.l0 k x0 x3 x4 (wrap64 (x5 + 1)))) else (none)) else (none))) else (some x3)
def lockageref13_Segments.f (k : Nat) (a0 : ByteArray) : Option (List ByteArray) := lockageref13_Segments.l0 k a0 ([] : List ByteArray) 1 1
theorem lockageref13_Segments.mono_l : ∀ k, (∀ y0 y1 y2 y3, LeO (lockageref13_Segments.l0 k y0 y1 y2 y3) (lockageref13_Segments.l0 (k + 1) y0 y1 y2 y3))
 | 0 => fun _ _ _ _ r h => by simp [lockageref13_Segments.l0] at h
 | k + 1 => by
  have ih0 := lockageref13_Segments.mono_l k
  ·intro y0 y1 y2 y3
   unfold lockageref13_Segments.l0; exact zM
theorem lockageref13_Segments.mono : ∀ a0 k, LeO (lockageref13_Segments.f k a0) (lockageref13_Segments.f (k + 1) a0) := by
 intro a0 k
 have ih0 := lockageref13_Segments.mono_l k
 unfold lockageref13_Segments.f; exact zM
set_option maxHeartbeats 8000000 in
set_option maxRecDepth 100000 in
theorem lockageref13_Segments.calls (k : Nat) (a0 : ByteArray) (r : List ByteArray) (w : World) (h : lockageref13_Segments.f k a0 = some r) :
  Calls Tryz.prog 64 #[.string a0] w fun e w' => ∃ v0_ : Value, e = .returned (v0_) ∧ Kd.R Kd.string 9 w' w.heap.size (fun _ => True) v0_ r ∧ Below w.heap.size w w' := by
 have HB := aM (Below.refl w.heap.size w); have H : (lockageref13_Segments.l0 k a0 ([] : List ByteArray) 1 1) = some r := h; clear h; have H' := aM H; clear H
 go_enter Tryz.func64, Tryz.ntmps64
 go_wp2
 go_loopg [3, 4, 5] k (fun kq v3 v4 v5 w' => ∃ (x3_1 : List ByteArray) (x4_1 : Int) (x5_1 : Int), v4 = .int .i64 x4_1 ∧ v5 = .int .i64 x5_1 ∧ Aside0 (lockageref13_Segments.l0 kq a0 x3_1 x4_1 x5_1 = some r) ∧ Aside0 (kq ≤ k) ∧ Aside0 (Kd.R Kd.string 9 w' w.heap.size (fun _ => True) v3 x3_1) ∧ Aside0 (Below w.heap.size w w'))
 case atStart => exact ⟨(([] : List ByteArray)), (1), (1), zR, zR, H', ⟨Nat.le_refl _⟩, ⟨by first | exact Kd.R_nil _ _ _ _ _ | exact Kd.N_nil _ _ _ _ _ | exact Kd.V_nil _ _ _ _ _ | exact Kd.Q_nil _ _ _ _ _ | exact Kd.S_nil _ _ _ _ _⟩, ⟨zB⟩⟩
 case round =>
  clear H'; obtain ⟨x3_1, x4_1, x5_1, rfl, rfl, HA, HK1, HO_3, HB⟩ := hrel; cases gk with
  | zero => exact absurd HA.out (by simp [lockageref13_Segments.l0])
  | succ k1 =>
   have H := HA.out; clear HA; simp only [lockageref13_Segments.l0] at H; by_cases c2 : x5_1 ≤ (a0.size : Int)
   ·rw [if_pos c2] at H; have c2b0 := decide_eq_true c2; clear c2; by_cases c3 : x5_1 = (a0.size : Int)
    ·rw [if_pos c3] at H; obtain ⟨c3b0, c3b1⟩ := zd c3; clear c3; by_cases c4 : 0 ≤ x4_1
     ·rw [if_pos c4] at H; have c4b0 := eq_true c4; have c4b1 := decide_eq_true c4; clear c4; by_cases c5 : x4_1 ≤ x5_1
      ·rw [if_pos c5] at H; have c5b0 := eq_true c5; have c5b1 := decide_eq_true c5; clear c5; have c6b0 := eq_true (of_decide_eq_true zA : x5_1 ≤ (a0.size : Int)); by_cases c7 : x3_1.length < 8796093022208
       ·rw [if_pos c7] at H; have LMc7 := aM c7; clear c7; obtain ⟨y325, hy325⟩ : ∃ y_ : List ByteArray, y_ = (x3_1 ++ [a0.extract (x4_1 : Int).toNat (x5_1 : Int).toNat]) := ⟨_, rfl⟩; (replace H : (lockageref13_Segments.l0 k1 a0 y325 (wrap64 (x5_1 + 1)) (wrap64 (x5_1 + 1))) = some r := zN hy325 H); have Ny325 := aM hy325; clear hy325; have H' := aM H; clear H
        go_wp2_with (first | ((with_reducible refine gate_builtin (b := .append) (xs := #[.tmp 22, .tmp 27]) rfl ?_); at_builtin; refine Kd.R_append Kd.string (w0 := w) w.heap.size rfl (.tmp 22) (.tmp 27) 27 9 (.string ⟨#[]⟩) 16 rfl Tryz.underlying27 info9 rfl (by decide) (by omega) u3 x3_1 (a0.extract (x4_1 : Int).toNat (x5_1 : Int).toNat) [.string (a0.extract (x4_1 : Int).toNat (x5_1 : Int).toNat)] (fun _ => True) (fun _ => False) rfl rfl ?aP (fun _ hk => hk.elim) ?aF ?aO ?aB ?aS ?aL ?_; (case aP => exact rfl); (case aB => exact zB); (case aF => exact (fun _ _ => trivial)); (case aO => exact zO HO_3.out); (case aS => exact (below_size zB)); (case aL => have := LMc7.out; omega); intro v326 w8 ho hb hg hat; rw [← Ny325.out] at ho; replace HB := aM hb; have HO327 := aM ho; clear HO_3; clear ho hb hg hat))
        go_roundg k1
        case measure => have := HK1.out; omega
        case rel => exact ⟨(y325), (wrap64 (x5_1 + 1)), (wrap64 (x5_1 + 1)), zR, zR, H', ⟨by have := HK1.out; omega⟩, ⟨zO HO327.out⟩, ⟨zB⟩⟩
       ·exact zf c7 H
      ·exact zf c5 H
     ·exact zf c4 H
    ·rw [if_neg c3] at H; obtain ⟨c3b0, c3b1⟩ := ze c3; by_cases c9 : 0 ≤ x5_1
     ·rw [if_pos c9] at H; have c9b0 := decide_eq_true c9; clear c9; by_cases c10 : x5_1 < (a0.size : Int)
      ·rw [if_pos c10] at H; have c10b0 := decide_eq_true c10; clear c10; by_cases c12 : (bt a0 x5_1) = 47
       ·rw [if_pos c12] at H; obtain ⟨c12b0, c12b1⟩ := zd c12; clear c12; by_cases c13 : 0 ≤ x4_1
        ·rw [if_pos c13] at H; have c13b0 := eq_true c13; have c13b1 := decide_eq_true c13; clear c13; by_cases c14 : x4_1 ≤ x5_1
         ·rw [if_pos c14] at H; have c14b0 := eq_true c14; have c14b1 := decide_eq_true c14; clear c14; have c15b0 := eq_true (of_decide_eq_true zA : x5_1 ≤ (a0.size : Int)); by_cases c16 : x3_1.length < 8796093022208
          ·rw [if_pos c16] at H; have LMc16 := aM c16; clear c16; obtain ⟨y328, hy328⟩ : ∃ y_ : List ByteArray, y_ = (x3_1 ++ [a0.extract (x4_1 : Int).toNat (x5_1 : Int).toNat]) := ⟨_, rfl⟩; (replace H : (lockageref13_Segments.l0 k1 a0 y328 (wrap64 (x5_1 + 1)) (wrap64 (x5_1 + 1))) = some r := zN hy328 H); have Ny328 := aM hy328; clear hy328; have H' := aM H; clear H; have p11 : 0 ≤ (x5_1 : Int) := of_decide_eq_true zA; have q11 : x5_1 < (a0.size : Int) := of_decide_eq_true zA; have hx11 := bt_at a0 x5_1; replace p11 := eq_true p11; replace q11 := eq_true q11
           go_wp2_with (first | ((with_reducible refine gate_builtin (b := .append) (xs := #[.tmp 22, .tmp 27]) rfl ?_); at_builtin; refine Kd.R_append Kd.string (w0 := w) w.heap.size rfl (.tmp 22) (.tmp 27) 27 9 (.string ⟨#[]⟩) 16 rfl Tryz.underlying27 info9 rfl (by decide) (by omega) u3 x3_1 (a0.extract (x4_1 : Int).toNat (x5_1 : Int).toNat) [.string (a0.extract (x4_1 : Int).toNat (x5_1 : Int).toNat)] (fun _ => True) (fun _ => False) rfl rfl ?aP (fun _ hk => hk.elim) ?aF ?aO ?aB ?aS ?aL ?_; (case aP => exact rfl); (case aB => exact zB); (case aF => exact (fun _ _ => trivial)); (case aO => exact zO HO_3.out); (case aS => exact (below_size zB)); (case aL => have := LMc16.out; omega); intro v329 w17 ho hb hg hat; rw [← Ny328.out] at ho; replace HB := aM hb; have HO330 := aM ho; clear HO_3; clear ho hb hg hat))
           go_roundg k1
           case measure => have := HK1.out; omega
           case rel => exact ⟨(y328), (wrap64 (x5_1 + 1)), (wrap64 (x5_1 + 1)), zR, zR, H', ⟨by have := HK1.out; omega⟩, ⟨zO HO330.out⟩, ⟨zB⟩⟩
          ·exact zf c16 H
         ·exact zf c14 H
        ·exact zf c13 H
       ·rw [if_neg c12] at H; obtain ⟨c12b0, c12b1⟩ := ze c12; have H' := aM H; clear H; have p11 : 0 ≤ (x5_1 : Int) := of_decide_eq_true zA; have q11 : x5_1 < (a0.size : Int) := of_decide_eq_true zA; have hx11 := bt_at a0 x5_1; replace p11 := eq_true p11; replace q11 := eq_true q11
        go_wp2
        go_roundg k1
        case measure => have := HK1.out; omega
        case rel => exact ⟨(x3_1), (x4_1), (wrap64 (x5_1 + 1)), zR, zR, H', ⟨by have := HK1.out; omega⟩, ⟨zO HO_3.out⟩, ⟨zB⟩⟩
      ·exact zf c10 H
     ·exact zf c9 H
   ·rw [if_neg c2] at H; have c2b0 := decide_eq_false c2; clear c2; obtain rfl := Option.some.inj H
    go_wp2
    go_ret
    exact ⟨_, zE, zO HO_3.out, zB⟩

end Go.Proofs.YthmallhjbhphgaaGreatDoor.P
