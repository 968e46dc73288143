/- Printed by a program of the session out of the translation: plain Lean functions, each with the contract that the Go function computes it. -/
import Derived.Test.YtapeodbgobkjeaaGreatDoorHZM
import Derived.Test.YtapeodbgobkjeaaGreatDoorPx0
import Derived.Test.YtapeodbgobkjeaaGreatDoorPxA
import Derived.Test.YtapeodbgobkjeaaGreatDoorPx5
import Derived.Test.YtapeodbgobkjeaaGreatDoorPx8
import Derived.Test.YtapeodbgobkjeaaGreatDoorHZB
namespace Go.Proofs.YtapeodbgobkjeaaGreatDoor.P
open Go.RowKit Go.Proofs.YtapeodbgobkjeaaGreatDoorW.PrintWords Go.Proofs.YtapeodbgobkjeaaGreatDoorW.PrintLast Go.Proofs.YtapeodbgobkjeaaGreatDoorW.PrintMore
attribute [local go_sem] max2_int min2_int max_two min_two max_three min_three max_four min_four   -- for this text's walks alone
set_option linter.unusedVariables false
set_option linter.unusedSimpArgs false

attribute [local go_sem high] eqA24
mutual
def frame_sized.j0 : Nat → Int → Int → Bool → Option (Int × Int × Int)
 | 0, _, _, _ => none
 | k + 1, x4, x5, x13 => if x13 = true then (some (0, 0, 22)) else (if x5 = 0 then (frame_sized.j1 k x4 (decide (x4 > 4000))) else (frame_sized.j1 k x4 (x5 != 0)))
def frame_sized.j1 : Nat → Int → Bool → Option (Int × Int × Int)
 | 0, _, _ => none
 | k + 1, x4, x20 => if x20 = true then (some (0, 0, 2)) else (some (2, x4, 0))
end
def frame_sized.f (k : Nat) (l0 : List ByteArray) : Option (Int × Int × Int) := if 0 < (l0.length : Int) then ((num_Parse.f k (rdOf ByteArray.empty l0 0) 10).bind fun bt195 => (if (l0.length : Int) > 1 then (frame_sized.j0 k bt195.1 bt195.2 (decide ((l0.length : Int) > 1))) else (frame_sized.j0 k bt195.1 bt195.2 (bt195.2 == 1)))) else (none)
theorem frame_sized.mono_l : ∀ k, (∀ y0 y1 y2, LeO (frame_sized.j0 k y0 y1 y2) (frame_sized.j0 (k + 1) y0 y1 y2)) ∧ (∀ y0 y1, LeO (frame_sized.j1 k y0 y1) (frame_sized.j1 (k + 1) y0 y1))
 | 0 => ⟨fun _ _ _ r h => by simp [frame_sized.j0] at h, fun _ _ r h => by simp [frame_sized.j1] at h⟩
 | k + 1 => by
  obtain ⟨ih0, ih1⟩ := frame_sized.mono_l k
  refine ⟨?_, ?_⟩
  ·intro y0 y1 y2
   unfold frame_sized.j0; have m0 := @num_Parse.mono; exact zM
  ·intro y0 y1
   unfold frame_sized.j1; have m0 := @num_Parse.mono; exact zM
theorem frame_sized.mono : ∀ a0 k, LeO (frame_sized.f k a0) (frame_sized.f (k + 1) a0) := by
 intro a0 k
 obtain ⟨ih0, ih1⟩ := frame_sized.mono_l k
 unfold frame_sized.f; have m0 := @num_Parse.mono; exact zM
set_option maxHeartbeats 8000000 in
set_option maxRecDepth 100000 in
theorem frame_sized.calls (k : Nat) (A0 : Option Addr) (c0 : Nat) (l0 : List ByteArray) (r1 : Int) (r2 : Int) (r3 : Int) (w : World) (hr0 : Kd.C Kd.string w A0 l0.length l0) (hc0 : l0.length ≤ c0) (h : frame_sized.f k l0 = some (r1, r2, r3)) :
  Calls Tryz.prog 162 #[.slice A0 l0.length c0] w fun e w' => e = .returned (.tuple #[.agg #[.int .i64 r1, .int .i64 r2], .int .i64 r3]) ∧ Below w.heap.size w w' := by
 have hu24 := Tryz.underlying24; have HR0 := aM hr0; have HC0 := aM hc0; clear hr0 hc0; have HB := aM (Below.refl w.heap.size w); have H := h; unfold frame_sized.f at H; clear h; by_cases c2 : 0 < (l0.length : Int)
 ·rw [if_pos c2] at H; have c2b0 := decide_eq_true c2; have c2b1 : decide (0 < l0.length) = true := decide_eq_true (by omega); clear c2; replace H := Option.bind_eq_some_iff.mp H; obtain ⟨⟨t195, t196⟩, A30, H⟩ := H; replace H : (if (l0.length : Int) > 1 then (frame_sized.j0 k t195 t196 (decide ((l0.length : Int) > 1))) else (frame_sized.j0 k t195 t196 (t196 == 1))) = some (r1, r2, r3) := H; have A3 := aM A30; clear A30; have HC4 := aM H; clear H
  go_enter Tryz.func162, Tryz.ntmps162
  go_upto_if 13 with (first | ((with_reducible refine gate_dst (N := 2) rfl ?_); refine box_event ?hg (N := 2) ?hd (cs := #[.int .i64 0, .int .i64 0]) (t := 24) ?hr ?_; (case hd => rfl); (case hg => rfl); (case hr => exact zG); intro gb193 hg w5 hbox hb; have BK193 := aM hbox; have GW193 := aM (by rw [hg]; exact (below_size zB) : w.heap.size ≤ gb193); replace HB := aM (below_step zB hb); have GE193 := GW193; clear hb hbox hg; have p194 : 0 ≤ (0 : Int) := (by omega); have q194 : 0 < (l0.length : Int) := of_decide_eq_true zA; obtain ⟨ad194, e194, hx194_0⟩ := Kd.at_string HR0.out 0 p194 q194; cases e194; have qi194 : (0 < l0.length) = True := eq_true (by omega); (try rw [show ((0 : Int)).toNat = 0 from rfl] at hx194_0); (try rw [Addr.add_zero'] at hx194_0); replace hx194_0 := (HB.out.cell (World.block_lt_of_cell? w _ hx194_0)).trans hx194_0; replace p194 := eq_true p194; replace q194 := eq_true q194) | ((with_reducible refine gate_callee (f := 159) rfl ?_); refine goesL_ (some 10) rfl rfl Tryz.func159 (by kernel_rfl) rfl #[.string (rdOf ByteArray.empty l0 0), .int .i64 10] rfl zL ?_; (with_reducible refine (num_Parse.calls k (rdOf ByteArray.empty l0 0) 10 t195 t196 _ A3.out).mono ?_); rintro e w' ⟨rfl, ⟨nd, rfl⟩⟩; refine ⟨_, rfl, ?_⟩))
  (try simp only [Act.put, List.setIfInBounds_toArray, List.set_cons_zero, List.set_cons_succ])
  go_cut [13] (fun v13 wc => ∃ (kq : Nat) (x13_3 : Bool), v13 = .bool x13_3 ∧ Aside0 (frame_sized.j0 kq t195 t196 x13_3 = some (r1, r2, r3)) ∧ Aside0 (kq ≤ k) ∧ Aside0 (wc.heap[gb193]? = some (.cells #[.int .i64 0, .int .i64 0] 24 (0, 0))) ∧ Aside0 (Below w.heap.size w wc))
  case first =>
   have H := HC4.out; clear HC4; by_cases c6 : (l0.length : Int) > 1
   ·rw [if_pos c6] at H; have c6b0 := decide_eq_true c6; have c6b1 : decide (1 < l0.length) = true := decide_eq_true (by omega); clear c6
    (first | rw [c6b0] | (simp only [i64_w, i32_w]; rw [c6b0]) | skip)
    have H' := aM H; clear H
    go_wp2
    go_meet
    case rel => exact ⟨_, (decide ((l0.length : Int) > 1)), zR, H', ⟨by first | omega | exact Nat.le_refl _⟩, ⟨zK BK193.out⟩, ⟨zB⟩⟩
   ·rw [if_neg c6] at H; have c6b0 := decide_eq_false c6; have c6b1 : decide (1 < l0.length) = false := decide_eq_false (by omega); clear c6
    (first | rw [c6b0] | (simp only [i64_w, i32_w]; rw [c6b0]) | skip)
    have H' := aM H; clear H
    go_wp2
    go_meet
    case rel => exact ⟨_, ((t196 == 1)), zR, H', ⟨by first | omega | exact Nat.le_refl _⟩, ⟨zK BK193.out⟩, ⟨zB⟩⟩
  case rest =>
   clear HC4; (try clear c1); (try clear p1); (try clear q1); (try clear hx1); (try clear qi1); (try clear c2); (try clear c2b0); (try clear c2b1); (try clear p2); (try clear c6); (try clear c6b0); (try clear c6b1); (try clear hx194_0); (try clear p194); (try clear q194); obtain ⟨kq, x13_3, rfl, HA, HJ3, BK193, HB⟩ := hcut; cases kq with
   | zero => exact absurd HA.out (by simp [frame_sized.j0])
   | succ kj3 =>
    have H := HA.out; clear HA; simp only [frame_sized.j0] at H; by_cases c7 : x13_3 = true
    ·subst c7; rw [if_pos rfl] at H; simp only [Option.some.injEq, Prod.mk.injEq] at H; obtain ⟨rfl, rfl, rfl⟩ := H; obtain ⟨_, _, _, _⟩ := cz2 BK193.out
     go_wp2
     refine bodyPost_ret (results_ct rfl _ _ gb193 24 #[.int .i64 0, .int .i64 0] (0, 0) _ rfl (zQ2 BK193.out) Tryz.underlying24 rfl (by kernel_rfl)) rfl ?_
     exact ⟨zE, zB⟩
    ·replace c7 := Bool.eq_false_iff.mpr c7; subst c7; rw [if_neg (show ¬ (false = true) by decide)] at H; have HC9 := aM H; clear H
     go_upto_if 20 with (fail)
     go_cut [20] (fun v20 wc => ∃ (kq : Nat) (x20_8 : Bool), v20 = .bool x20_8 ∧ Aside0 (frame_sized.j1 kq t195 x20_8 = some (r1, r2, r3)) ∧ Aside0 (kq ≤ kj3) ∧ Aside0 (wc.heap[gb193]? = some (.cells #[.int .i64 0, .int .i64 0] 24 (0, 0))) ∧ Aside0 (Below w.heap.size w wc))
     case first =>
      have H := HC9.out; clear HC9; by_cases c10 : t196 = 0
      ·rw [if_pos c10] at H; obtain ⟨c10b0, c10b1⟩ := zd c10; clear c10
       (first | rw [c10b0] | (simp only [i64_w, i32_w]; rw [c10b0]) | skip)
       have H' := aM H; clear H
       go_wp2
       go_meet
       case rel => exact ⟨_, (decide (t195 > 4000)), zR, H', ⟨by have := HJ3.out; first | omega | exact Nat.le_refl _⟩, ⟨zK BK193.out⟩, ⟨zB⟩⟩
      ·rw [if_neg c10] at H; obtain ⟨c10b0, c10b1⟩ := ze c10
       (first | rw [c10b0] | (simp only [i64_w, i32_w]; rw [c10b0]) | skip)
       have H' := aM H; clear H
       go_wp2
       go_meet
       case rel => exact ⟨_, ((t196 != 0)), zR, H', ⟨by have := HJ3.out; first | omega | exact Nat.le_refl _⟩, ⟨zK BK193.out⟩, ⟨zB⟩⟩
     case rest =>
      clear HC9; (try clear c1); (try clear p1); (try clear q1); (try clear hx1); (try clear qi1); (try clear c2); (try clear c2b0); (try clear c2b1); (try clear p2); (try clear c6); (try clear c6b0); (try clear c6b1); (try clear c7); (try clear c10); (try clear c10b0); (try clear c10b1); (try clear hx194_0); (try clear p1); (try clear p194); (try clear p2); (try clear q1); (try clear q194); obtain ⟨kq, x20_8, rfl, HA, HJ8, BK193, HB⟩ := hcut; cases kq with
      | zero => exact absurd HA.out (by simp [frame_sized.j1])
      | succ kj8 =>
       have H := HA.out; clear HA; simp only [frame_sized.j1] at H; by_cases c11 : x20_8 = true
       ·subst c11; rw [if_pos rfl] at H; simp only [Option.some.injEq, Prod.mk.injEq] at H; obtain ⟨rfl, rfl, rfl⟩ := H; obtain ⟨_, _, _, _⟩ := cz2 BK193.out
        go_wp2
        refine bodyPost_ret (results_ct rfl _ _ gb193 24 #[.int .i64 0, .int .i64 0] (0, 0) _ rfl (zQ2 BK193.out) Tryz.underlying24 rfl (by kernel_rfl)) rfl ?_
        exact ⟨zE, zB⟩
       ·replace c11 := Bool.eq_false_iff.mpr c11; subst c11; rw [if_neg (show ¬ (false = true) by decide)] at H; simp only [Option.some.injEq, Prod.mk.injEq] at H; obtain ⟨rfl, rfl, rfl⟩ := H; obtain ⟨_, _, _, _⟩ := cz2 BK193.out
        go_wp2
        refine bodyPost_ret (results_ct rfl _ _ gb193 24 #[.int .i64 2, .int .i64 t195] (0, 0) _ rfl (zQ2 BK193.out) Tryz.underlying24 rfl (by kernel_rfl)) rfl ?_
        exact ⟨zE, zB⟩
 ·exact zf c2 H

mutual
def frame_told.j0 : Nat → List ByteArray → List ByteArray → Bool → ByteArray → ByteArray → Int → ByteArray → Int → List (S40) → Option (Int × Int × Int)
 | 0, _, _, _, _, _, _, _, _, _ => none
 | k + 1, x4, x5, x12, x198000, x198001, x198002, x198003, x198004, x198005 => if x12 = true then (some (0, 0, 0)) else (if (x4.length : Int) = 0 then ((frame_sized.f k x5).bind fun bt205 => (some (bt205.1, bt205.2.1, bt205.2.2))) else (if (x4.length : Int) > 1 then (frame_told.j1 k (decide ((x4.length : Int) > 1))) else (if (x5.length : Int) > 0 then (frame_told.j1 k (decide ((x5.length : Int) > 0))) else (if x198004 = 0 then (frame_told.j1 k (x198004 == 0)) else (if 0 < (x4.length : Int) then ((field_Lower.f (rdOf ByteArray.empty x4 0)).bind fun t209 => (frame_told.j1 k (t209.toList != ([99, 104, 117, 110, 107, 101, 100] : List UInt8)))) else (none))))))
def frame_told.j1 : Nat → Bool → Option (Int × Int × Int)
 | 0, _ => none
 | k + 1, x30 => if x30 = true then (some (0, 0, 22)) else (some (3, 0, 0))
end
def frame_told.f (k : Nat) (a0_0 : ByteArray) (a0_1 : ByteArray) (a0_2 : Int) (a0_3 : ByteArray) (a0_4 : Int) (l0_5 : List (S40)) : Option (Int × Int × Int) := (field_Get.f k l0_5 (⟨#[84, 114, 97, 110, 115, 102, 101, 114, 45, 69, 110, 99, 111, 100, 105, 110, 103]⟩ : ByteArray)).bind fun t199 => ((field_Get.f k l0_5 (⟨#[67, 111, 110, 116, 101, 110, 116, 45, 76, 101, 110, 103, 116, 104]⟩ : ByteArray)).bind fun t202 => (if (t199.length : Int) = 0 then (frame_told.j0 k t199 t202 ((t202.length : Int) == 0) a0_0 a0_1 a0_2 a0_3 a0_4 l0_5) else (frame_told.j0 k t199 t202 false a0_0 a0_1 a0_2 a0_3 a0_4 l0_5)))
theorem frame_told.mono_l : ∀ k, (∀ y0 y1 y2 y3 y4 y5 y6 y7 y8, LeO (frame_told.j0 k y0 y1 y2 y3 y4 y5 y6 y7 y8) (frame_told.j0 (k + 1) y0 y1 y2 y3 y4 y5 y6 y7 y8)) ∧ (∀ y0, LeO (frame_told.j1 k y0) (frame_told.j1 (k + 1) y0))
 | 0 => ⟨fun _ _ _ _ _ _ _ _ _ r h => by simp [frame_told.j0] at h, fun _ r h => by simp [frame_told.j1] at h⟩
 | k + 1 => by
  obtain ⟨ih0, ih1⟩ := frame_told.mono_l k
  refine ⟨?_, ?_⟩
  ·intro y0 y1 y2 y3 y4 y5 y6 y7 y8
   unfold frame_told.j0; have m0 := @field_Get.mono; have m1 := @frame_sized.mono; exact zM
  ·intro y0
   unfold frame_told.j1; have m0 := @field_Get.mono; have m1 := @frame_sized.mono; exact zM
theorem frame_told.mono : ∀ a0 a1 a2 a3 a4 a5 k, LeO (frame_told.f k a0 a1 a2 a3 a4 a5) (frame_told.f (k + 1) a0 a1 a2 a3 a4 a5) := by
 intro a0 a1 a2 a3 a4 a5 k
 obtain ⟨ih0, ih1⟩ := frame_told.mono_l k
 unfold frame_told.f; have m0 := @field_Get.mono; have m1 := @frame_sized.mono; exact zM
def frame_told.T1 : Bool × List (List Nat × List Nat) := (true, [([], []), ([0], [0]), ([1], [1]), ([], []), ([3], [3]), ([4, 2], [4]), ([2, 5, 0, 1, 2], [2]), ([5, 6, 0, 1, 2, 3, 4, 5, 6], [5])])
def frame_told.B1 : List Nat := [0, 1, 3, 0, 8, 31, 63, 127]
theorem frame_told.tab1 : rtab .any (opsOf Tryz.f138 1) = frame_told.T1 := by kernel_rfl
theorem frame_told.bits1 : waitsOk frame_told.T1.2 frame_told.B1 = true := by kernel_rfl
set_option maxHeartbeats 8000000 in
set_option maxRecDepth 100000 in
theorem frame_told.calls (k : Nat) (a0_0 : ByteArray) (a0_1 : ByteArray) (a0_2 : Int) (a0_3 : ByteArray) (a0_4 : Int) (A0_5 : Option Addr) (c0_5 : Nat) (l0_5 : List (S40)) (r1 : Int) (r2 : Int) (r3 : Int) (w : World) (hr0_5 : Kd.C k40 w A0_5 l0_5.length l0_5) (hc0_5 : l0_5.length ≤ c0_5) (h : frame_told.f k a0_0 a0_1 a0_2 a0_3 a0_4 l0_5 = some (r1, r2, r3)) :
  Calls Tryz.prog 138 #[.agg #[.string a0_0, .string a0_1, .int .i64 a0_2, .string a0_3, .int .i64 a0_4, .slice A0_5 l0_5.length c0_5]] w fun e w' => e = .returned (.tuple #[.agg #[.int .i64 r1, .int .i64 r2], .int .i64 r3]) ∧ Below w.heap.size w w' := by
 have hu29 := Tryz.underlying29; have hu24 := Tryz.underlying24; have HR0_5 := aM hr0_5; have HC0_5 := aM hc0_5; clear hr0_5 hc0_5; have HB := aM (Below.refl w.heap.size w); have H := h; unfold frame_told.f at H; clear h; obtain ⟨t199, A2, H⟩ := zc H; (try dsimp only at H); obtain ⟨t202, A3, H⟩ := zc H; (try dsimp only at H); have HC4 := aM H; clear H
 go_enter Tryz.func138, Tryz.ntmps138
 try go_wp2_with (first | ((with_reducible refine gate_dst (N := 1) rfl ?_); (try (refine gate_guard (by rfl) ?_; dsimp only)); refine box_event ?hg (N := 1) ?hd (cs := #[.string a0_0, .string a0_1, .int .i64 a0_2, .string a0_3, .int .i64 a0_4, .slice A0_5 l0_5.length c0_5]) (t := 29) ?hr ?_; (case hd => rfl); (case hg => rfl); (case hr => exact zG); intro gb197 hg w5 hbox hb; have BK197 := aM hbox; have GW197 := aM (by rw [hg]; exact (below_size zB) : w.heap.size ≤ gb197); replace HB := aM (below_step zB hb); have GE197 := GW197; clear hb hbox hg) | ((with_reducible refine gate_dst (N := 2) rfl ?_); (try (refine gate_guard (by rfl) ?_; dsimp only)); refine box_event ?hg (N := 2) ?hd (cs := #[.int .i64 0, .int .i64 0]) (t := 24) ?hr ?_; (case hd => rfl); (case hg => rfl); (case hr => exact zG); intro gb198 hg w6 hbox hb; have BK198 := aM hbox; have GW198 := aM (by rw [hg]; exact (below_size zB) : w.heap.size ≤ gb198); replace HB := aM (below_step zB hb); have GE198 := GW198; have NB197_198 := aM (by rw [hg]; exact Nat.ne_of_lt (blk_lt (zK BK197.out)) : gb197 ≠ gb198); replace BK197 := aM (zX BK197.out hb); have NB198_197 := aM NB197_198.out.symm; clear hb hbox hg))
 replace BK197 := aM (bD BK197.out); replace BK198 := aM (bD BK198.out); replace HB := aM (lD HB.out)
 refine start_ (n := 8) (S := fun w' => w'.cell? ⟨gb197, 0, none⟩ = some (.string a0_0) ∧ w'.cell? ⟨gb197, 1, none⟩ = some (.string a0_1) ∧ w'.cell? ⟨gb197, 2, none⟩ = some (.int .i64 a0_2) ∧ w'.cell? ⟨gb197, 3, none⟩ = some (.string a0_3) ∧ w'.cell? ⟨gb197, 4, none⟩ = some (.int .i64 a0_4) ∧ w'.cell? ⟨gb197, 5, none⟩ = some (.slice A0_5 l0_5.length c0_5)) (ds := []) (dB 8 0) (by kernel_rfl) rfl rfl ⟨(blk_cell BK197.out 0).trans rfl, (blk_cell BK197.out 1).trans rfl, (blk_cell BK197.out 2).trans rfl, (blk_cell BK197.out 3).trans rfl, (blk_cell BK197.out 4).trans rfl, (blk_cell BK197.out 5).trans rfl⟩ (fun hHeld => ?_); refine with_tabW frame_told.tab1 frame_told.bits1 (fun HT_ HW_ => ?_)
 generalize w6.drew = w7 at BK197 BK198 HB hHeld ⊢
 refine pR 0 6 (dB 8 1) HT_.out ?_
 refine pR 3 9 (dB 8 9) HT_.out ?_
 refine tR 1 7 (dB 8 11) HT_.out HW_.out hHeld ?_
 refine tR 4 10 (dB 8 27) HT_.out HW_.out hHeld ?_
 refine oR 2 8 (dB 8 31) HT_.out (fun K hK => ?_)
 refine goes_ Tryz.func161 (by kernel_rfl) rfl #[.slice A0_5 l0_5.length c0_5, .string (⟨#[84, 114, 97, 110, 115, 102, 101, 114, 45, 69, 110, 99, 111, 100, 105, 110, 103]⟩ : ByteArray)] (by rfl) rfl rfl zL ?_
 with_reducible refine (field_Get.calls k _ _ l0_5 (⟨#[84, 114, 97, 110, 115, 102, 101, 114, 45, 69, 110, 99, 111, 100, 105, 110, 103]⟩ : ByteArray) t199 _ ?side1 ?side2 A2.out).mono ?_
 (case side1 => exact zC (Kd.C_below HR0_5.out HB.out))
 (case side2 => exact HC0_5.out)
 rintro e w8 ⟨v200, rfl, ho0, hb⟩
 refine ⟨_, rfl, ?_⟩
 have HO201 := aM (Kd.R_lower ho0 (below_size zB)); replace BK197 := aM (zX BK197.out hb); replace BK198 := aM (zX BK198.out hb); replace HB := aM (below_step zB hb)
 (try clear hb)
 (try clear hb2)
 (try clear hk)
 (try clear hi)
 (try clear ho0)
 refine hK.out _ _ ⟨(blk_cell BK197.out 0).trans rfl, (blk_cell BK197.out 1).trans rfl, (blk_cell BK197.out 2).trans rfl, (blk_cell BK197.out 3).trans rfl, (blk_cell BK197.out 4).trans rfl, (blk_cell BK197.out 5).trans rfl⟩ (fun hHeld => ?_)
 clear hK K
 refine norm_ (a' := ?_) ?_ ?_
 rotate_left
 ·show Act.put _ (some 8) _ = _
  exact zP
 refine oR 5 11 (dB 8 63) HT_.out (fun K hK => ?_)
 refine goes_ Tryz.func161 (by kernel_rfl) rfl #[.slice A0_5 l0_5.length c0_5, .string (⟨#[67, 111, 110, 116, 101, 110, 116, 45, 76, 101, 110, 103, 116, 104]⟩ : ByteArray)] (by rfl) rfl rfl zL ?_
 with_reducible refine (field_Get.calls k _ _ l0_5 (⟨#[67, 111, 110, 116, 101, 110, 116, 45, 76, 101, 110, 103, 116, 104]⟩ : ByteArray) t202 _ ?side1 ?side2 A3.out).mono ?_
 (case side1 => exact zC (Kd.C_below HR0_5.out HB.out))
 (case side2 => exact HC0_5.out)
 rintro e w9 ⟨v203, rfl, ho0, hb⟩
 refine ⟨_, rfl, ?_⟩
 have HO204 := aM (Kd.R_lower (Kd.R_new' ho0 (Kd.R_lt (zO HO201.out))) (below_size zB)); replace HO201 := aM (Kd.R_elder' (zO HO201.out) (Kd.R_base ho0) hb); replace BK197 := aM (zX BK197.out hb); replace BK198 := aM (zX BK198.out hb); replace HB := aM (below_step zB hb)
 (try clear hb)
 (try clear hb2)
 (try clear hk)
 (try clear hi)
 (try clear ho0)
 refine hK.out _ _ ⟨(blk_cell BK197.out 0).trans rfl, (blk_cell BK197.out 1).trans rfl, (blk_cell BK197.out 2).trans rfl, (blk_cell BK197.out 3).trans rfl, (blk_cell BK197.out 4).trans rfl, (blk_cell BK197.out 5).trans rfl⟩ (fun hHeld => ?_)
 clear hK K
 refine norm_ (a' := ?_) ?_ ?_
 rotate_left
 ·show Act.put _ (some 11) _ = _
  exact zP
 refine pR 6 4 (dB 8 127) HT_.out ?_
 refine pR 7 5 (dB 8 255) HT_.out ?_
 refine done_ (done_of HT_.out (by kernel_rfl)) ?_
 go_upto_region 2 with (fail)
 go_cut [12] (fun v12 wc => ∃ (kq : Nat) (x12_3 : Bool), v12 = .bool x12_3 ∧ Aside0 (frame_told.j0 kq t199 t202 x12_3 a0_0 a0_1 a0_2 a0_3 a0_4 l0_5 = some (r1, r2, r3)) ∧ Aside0 (kq ≤ k) ∧ Aside0 (Kd.R Kd.string 9 wc w.heap.size (fun k_ => some k_ ≠ (v203 : Value).ownBlock) v200 t199) ∧ Aside0 (Kd.R Kd.string 9 wc w.heap.size (fun k_ => some k_ ≠ (v200 : Value).ownBlock) v203 t202) ∧ Aside0 (wc.heap[gb197]? = some (.cells #[.string a0_0, .string a0_1, .int .i64 a0_2, .string a0_3, .int .i64 a0_4, (.slice A0_5 l0_5.length c0_5)] 29 (0, 0))) ∧ Aside0 (wc.heap[gb198]? = some (.cells #[.int .i64 0, .int .i64 0] 24 (0, 0))) ∧ Aside0 (Below w.heap.size w wc))
 case first =>
  have H := HC4.out; clear HC4; by_cases c10 : (t199.length : Int) = 0
  ·rw [if_pos c10] at H; obtain ⟨c10b0, c10b1⟩ := zd c10; clear c10
   (first | rw [c10b0] | (simp only [i64_w, i32_w]; rw [c10b0]) | skip)
   have H' := aM H; clear H; obtain ⟨Ao11, co11, eo11⟩ := Kd.R_slice HO201.out; subst eo11; obtain ⟨Ao12, co12, eo12⟩ := Kd.R_slice HO204.out; subst eo12
   go_wp2
   go_meet
   case rel => exact ⟨_, (((t202.length : Int) == 0)), zR, H', ⟨by first | omega | exact Nat.le_refl _⟩, ⟨by (with_reducible repeat (first | apply rA | apply rN | apply rD)); exact Kd.R_mono HO201.out (fun _ hk => hk.2)⟩, ⟨by (with_reducible repeat (first | apply rA | apply rN | apply rD)); exact Kd.R_mono HO204.out (fun _ hk => hk.2)⟩, ⟨zK BK197.out⟩, ⟨zK BK198.out⟩, ⟨zB⟩⟩
  ·rw [if_neg c10] at H; obtain ⟨c10b0, c10b1⟩ := ze c10; (have c10b2 : ¬ (t199 = []) := fun h_ => c10 (by rw [h_]; rfl))
   (first | rw [c10b0] | (simp only [i64_w, i32_w]; rw [c10b0]) | skip)
   have H' := aM H; clear H; obtain ⟨Ao13, co13, eo13⟩ := Kd.R_slice HO201.out; subst eo13
   go_wp2
   go_meet
   case rel => exact ⟨_, (false), zR, H', ⟨by first | omega | exact Nat.le_refl _⟩, ⟨by (with_reducible repeat (first | apply rA | apply rN | apply rD)); exact Kd.R_mono HO201.out (fun _ hk => hk.2)⟩, ⟨by (with_reducible repeat (first | apply rA | apply rN | apply rD)); exact Kd.R_mono HO204.out (fun _ hk => hk.2)⟩, ⟨zK BK197.out⟩, ⟨zK BK198.out⟩, ⟨zB⟩⟩
 case rest =>
  clear HC4; (try clear c1); (try clear p2); (try clear c10); (try clear c10b0); (try clear c10b1); (try clear c10b2); (try clear c13); obtain ⟨kq, x12_3, rfl, HA, HJ3, HO_4, HO_5, BK197, BK198, HB⟩ := hcut; cases kq with
  | zero => exact absurd HA.out (by simp [frame_told.j0])
  | succ kj3 =>
   have H := HA.out; clear HA; simp only [frame_told.j0] at H; by_cases c14 : x12_3 = true
   ·subst c14; rw [if_pos rfl] at H; simp only [Option.some.injEq, Prod.mk.injEq] at H; obtain ⟨rfl, rfl, rfl⟩ := H; have hnb15 := NB198_197.out; have hnc15 := NB197_198.out; obtain ⟨_, _, _, _⟩ := cz2 BK198.out
    go_wp2
    refine bodyPost_ret (results_ct rfl _ _ gb198 24 #[.int .i64 0, .int .i64 0] (0, 0) _ rfl (zQ2 BK198.out) Tryz.underlying24 rfl (by kernel_rfl)) rfl ?_
    exact ⟨zE, zB⟩
   ·replace c14 := Bool.eq_false_iff.mpr c14; subst c14; rw [if_neg (show ¬ (false = true) by decide)] at H; by_cases c17 : (t199.length : Int) = 0
    ·rw [if_pos c17] at H; obtain ⟨c17b0, c17b1⟩ := zd c17; clear c17; replace H := Option.bind_eq_some_iff.mp H; obtain ⟨⟨t205, t206, t207⟩, A180, H⟩ := H; replace H : (some (t205, t206, t207)) = some (r1, r2, r3) := H; have A18 := aM A180; clear A180; simp only [Option.some.injEq, Prod.mk.injEq] at H; obtain ⟨rfl, rfl, rfl⟩ := H; obtain ⟨Ao19, co19, eo19⟩ := Kd.R_slice HO_4.out; subst eo19; obtain ⟨Ao20, co20, eo20⟩ := Kd.R_slice HO_5.out; subst eo20
     go_wp2_with (first | ((with_reducible refine gate_callee (f := 162) rfl ?_); refine goesL_ (some 27) rfl rfl Tryz.func162 (by kernel_rfl) rfl #[.slice Ao20 t202.length co20] rfl zL ?_; (with_reducible refine (frame_sized.calls kj3 _ _ t202 t205 t206 t207 _ ?side1 ?side2 A18.out).mono ?_); (case side1 => exact zC ((Kd.R_reads' HO_5.out).2.2)); (case side2 => exact (Kd.R_reads' HO_5.out).2.1); rintro e w21 ⟨rfl, hb⟩; refine ⟨_, rfl, ?_⟩; replace HO_4 := aM (Kd.R_below (zO HO_4.out) hb); replace HO_5 := aM (Kd.R_below (zO HO_5.out) hb); replace BK197 := aM (zX BK197.out hb); replace BK198 := aM (zX BK198.out hb); replace HB := aM (below_step zB hb); clear hb; have hnb22 := NB198_197.out; have hnc22 := NB197_198.out; obtain ⟨_, _, _, _⟩ := cz2 BK198.out))
     refine bodyPost_ret (results_ct rfl _ _ gb198 24 #[.int .i64 t205, .int .i64 t206] (0, 0) _ rfl (zQ2 BK198.out) Tryz.underlying24 rfl (by kernel_rfl)) rfl ?_
     exact ⟨zE, zB⟩
    ·rw [if_neg c17] at H; obtain ⟨c17b0, c17b1⟩ := ze c17; (have c17b2 : ¬ (t199 = []) := fun h_ => c17 (by rw [h_]; rfl)); have HC24 := aM H; clear H; obtain ⟨Ao25, co25, eo25⟩ := Kd.R_slice HO_4.out; subst eo25
     go_upto_if 30 with (fail)
     go_cut [30] (fun v30 wc => ∃ (kq : Nat) (x30_23 : Bool), v30 = .bool x30_23 ∧ Aside0 (frame_told.j1 kq x30_23 = some (r1, r2, r3)) ∧ Aside0 (kq ≤ kj3) ∧ Aside0 (wc.heap[gb197]? = some (.cells #[.string a0_0, .string a0_1, .int .i64 a0_2, .string a0_3, .int .i64 a0_4, (.slice A0_5 l0_5.length c0_5)] 29 (0, 0))) ∧ Aside0 (wc.heap[gb198]? = some (.cells #[.int .i64 0, .int .i64 0] 24 (0, 0))) ∧ Aside0 (Below w.heap.size w wc))
     case first =>
      have H := HC24.out; clear HC24; by_cases c26 : (t199.length : Int) > 1
      ·rw [if_pos c26] at H; have c26b0 := decide_eq_true c26; have c26b1 : decide (1 < t199.length) = true := decide_eq_true (by omega); clear c26
       (first | rw [c26b0] | (simp only [i64_w, i32_w]; rw [c26b0]) | skip)
       have H' := aM H; clear H
       go_wp2
       go_meet
       case rel => exact ⟨_, (decide ((t199.length : Int) > 1)), zR, H', ⟨by have := HJ3.out; first | omega | exact Nat.le_refl _⟩, ⟨zK BK197.out⟩, ⟨zK BK198.out⟩, ⟨zB⟩⟩
      ·rw [if_neg c26] at H; have c26b0 := decide_eq_false c26; have c26b1 : decide (1 < t199.length) = false := decide_eq_false (by omega); clear c26
       (first | rw [c26b0] | (simp only [i64_w, i32_w]; rw [c26b0]) | skip)
       by_cases c27 : (t202.length : Int) > 0
       ·rw [if_pos c27] at H; have c27b0 := decide_eq_true c27; have c27b1 : decide (0 < t202.length) = true := decide_eq_true (by omega); clear c27; have H' := aM H; clear H; obtain ⟨Ao28, co28, eo28⟩ := Kd.R_slice HO_5.out; subst eo28
        go_wp2
        go_meet
        case rel => exact ⟨_, (decide ((t202.length : Int) > 0)), zR, H', ⟨by have := HJ3.out; first | omega | exact Nat.le_refl _⟩, ⟨zK BK197.out⟩, ⟨zK BK198.out⟩, ⟨zB⟩⟩
       ·rw [if_neg c27] at H; have c27b0 := decide_eq_false c27; have c27b1 : decide (0 < t202.length) = false := decide_eq_false (by omega); clear c27; by_cases c29 : a0_4 = 0
        ·rw [if_pos c29] at H; obtain ⟨c29b0, c29b1⟩ := zd c29; clear c29; have H' := aM H; clear H; obtain ⟨Ao30, co30, eo30⟩ := Kd.R_slice HO_5.out; subst eo30; have hnb31 := NB197_198.out; have hnc31 := NB198_197.out; obtain ⟨_, _, _, _, _, _, _, _, _, _, _, _⟩ := cz6 BK197.out
         go_wp2
         go_meet
         case rel => exact ⟨_, ((a0_4 == 0)), zR, H', ⟨by have := HJ3.out; first | omega | exact Nat.le_refl _⟩, ⟨zK BK197.out⟩, ⟨zK BK198.out⟩, ⟨zB⟩⟩
        ·rw [if_neg c29] at H; obtain ⟨c29b0, c29b1⟩ := ze c29; by_cases c33 : 0 < (t199.length : Int)
         ·rw [if_pos c33] at H; have c33b0 := decide_eq_true c33; have c33b1 : decide (0 < t199.length) = true := decide_eq_true (by omega); clear c33; replace H := Option.bind_eq_some_iff.mp H; obtain ⟨t209, A340, H⟩ := H; replace H : (frame_told.j1 kj3 (t209.toList != ([99, 104, 117, 110, 107, 101, 100] : List UInt8))) = some (r1, r2, r3) := H; have A34 := aM A340; clear A340; have H' := aM H; clear H; obtain ⟨Ao35, co35, eo35⟩ := Kd.R_slice HO_5.out; subst eo35; have hnb36 := NB197_198.out; have hnc36 := NB198_197.out; obtain ⟨_, _, _, _, _, _, _, _, _, _, _, _⟩ := cz6 BK197.out; have p208 : 0 ≤ (0 : Int) := (by omega); have q208 : 0 < (t199.length : Int) := of_decide_eq_true zA; obtain ⟨ad208, e208, hx208_0⟩ := Kd.at_string (Kd.R_reads' HO_4.out).2.2 0 p208 q208; cases e208; have qi208 : (0 < t199.length) = True := eq_true (by omega)
          (try rw [show ((0 : Int)).toNat = 0 from rfl] at hx208_0)
          (try rw [Addr.add_zero'] at hx208_0)
          replace p208 := eq_true p208; replace q208 := eq_true q208
          go_wp2_with (first | ((with_reducible refine gate_callee (f := 55) rfl ?_); refine goesL_ (some 43) rfl rfl Tryz.func55 (by kernel_rfl) rfl #[.string (rdOf ByteArray.empty t199 0)] rfl zL ?_; (with_reducible refine (field_Lower.calls (rdOf ByteArray.empty t199 0) t209 _ A34.out).mono ?_); rintro e w38 ⟨rfl, hb⟩; refine ⟨_, rfl, ?_⟩; replace HO_4 := aM (Kd.R_below (zO HO_4.out) hb); replace HO_5 := aM (Kd.R_below (zO HO_5.out) hb); replace BK197 := aM (zX BK197.out hb); replace BK198 := aM (zX BK198.out hb); replace HB := aM (below_step zB hb); clear hb))
          go_meet
          case rel => exact ⟨_, ((t209.toList != ([99, 104, 117, 110, 107, 101, 100] : List UInt8))), zR, H', ⟨by have := HJ3.out; first | omega | exact Nat.le_refl _⟩, ⟨zK BK197.out⟩, ⟨zK BK198.out⟩, ⟨zB⟩⟩
         ·exact zf c33 H
     case rest =>
      clear HC24; (try clear c1); (try clear c2); (try clear p2); (try clear q2); (try clear hx2); (try clear qi2); (try clear c3); (try clear c5); (try clear c10); (try clear c10b0); (try clear c10b1); (try clear c10b2); (try clear c13); (try clear c14); (try clear c15); (try clear c16); (try clear c17); (try clear c17b0); (try clear c17b1); (try clear c17b2); (try clear p20); (try clear q20); (try clear hx20); (try clear qi20); (try clear c22); (try clear c26); (try clear c26b0); (try clear c26b1); (try clear c27); (try clear c27b0); (try clear c27b1); (try clear c29); (try clear c29b0); (try clear c29b1); (try clear c31); (try clear c33); (try clear c33b0); (try clear c33b1); (try clear c36); (try clear hx208_0); (try clear p2); (try clear p208); (try clear q208); obtain ⟨kq, x30_23, rfl, HA, HJ23, BK197, BK198, HB⟩ := hcut; cases kq with
      | zero => exact absurd HA.out (by simp [frame_told.j1])
      | succ kj23 =>
       have H := HA.out; clear HA; simp only [frame_told.j1] at H; by_cases c39 : x30_23 = true
       ·subst c39; rw [if_pos rfl] at H; simp only [Option.some.injEq, Prod.mk.injEq] at H; obtain ⟨rfl, rfl, rfl⟩ := H; have hnb40 := NB198_197.out; have hnc40 := NB197_198.out; obtain ⟨_, _, _, _⟩ := cz2 BK198.out
        go_wp2
        refine bodyPost_ret (results_ct rfl _ _ gb198 24 #[.int .i64 0, .int .i64 0] (0, 0) _ rfl (zQ2 BK198.out) Tryz.underlying24 rfl (by kernel_rfl)) rfl ?_
        exact ⟨zE, zB⟩
       ·replace c39 := Bool.eq_false_iff.mpr c39; subst c39; rw [if_neg (show ¬ (false = true) by decide)] at H; simp only [Option.some.injEq, Prod.mk.injEq] at H; obtain ⟨rfl, rfl, rfl⟩ := H; have hnb42 := NB198_197.out; have hnc42 := NB197_198.out; obtain ⟨_, _, _, _⟩ := cz2 BK198.out
        go_wp2
        refine bodyPost_ret (results_ct rfl _ _ gb198 24 #[.int .i64 3, .int .i64 0] (0, 0) _ rfl (zQ2 BK198.out) Tryz.underlying24 rfl (by kernel_rfl)) rfl ?_
        exact ⟨zE, zB⟩

def frame_or.f (a0_0 : Int) (a0_1 : Int) (a1 : Int) (a2 : Int) : Option (Int × Int × Int) := if a1 = 0 then (if (a0_0 == 0 && (a0_1 == 0)) = true then (some (a2, a0_1, a1)) else (some (a0_0, a0_1, a1))) else (some (a0_0, a0_1, a1))
set_option maxHeartbeats 8000000 in
set_option maxRecDepth 100000 in
theorem frame_or.calls (a0_0 : Int) (a0_1 : Int) (a1 : Int) (a2 : Int) (r1 : Int) (r2 : Int) (r3 : Int) (w : World) (h : frame_or.f a0_0 a0_1 a1 a2 = some (r1, r2, r3)) :
  Calls Tryz.prog 139 #[.agg #[.int .i64 a0_0, .int .i64 a0_1], .int .i64 a1, .int .i64 a2] w fun e w' => e = .returned (.tuple #[.agg #[.int .i64 r1, .int .i64 r2], .int .i64 r3]) ∧ Below w.heap.size w w' := by
 have hu24 := Tryz.underlying24; have HB := aM (Below.refl w.heap.size w); have H : (if a1 = 0 then (if (a0_0 == 0 && (a0_1 == 0)) = true then (some (a2, a0_1, a1)) else (some (a0_0, a0_1, a1))) else (some (a0_0, a0_1, a1))) = some (r1, r2, r3) := h; clear h; by_cases c4 : a1 = 0
 ·rw [if_pos c4] at H; obtain ⟨c4b0, c4b1⟩ := zd c4; clear c4; by_cases c5 : (a0_0 == 0 && (a0_1 == 0)) = true
  ·rw [if_pos c5] at H; have c5b0 : (a0_0 == 0 && (a0_1 == 0)) = true := c5
   (try (have c5b1 : decide (a0_0 = 0 && (a0_1 == 0)) = true := by simpa using c5))
   (try (have c5b2 : (a0_0 == 0 && (a0_1 == 0)) = true := by simpa using c5))
   clear c5; simp only [Option.some.injEq, Prod.mk.injEq] at H; obtain ⟨rfl, rfl, rfl⟩ := H
   go_enter Tryz.func139, Tryz.ntmps139
   go_wp2_with (first | ((with_reducible refine gate_dst (N := 3) rfl ?_); refine box_event ?hg (N := 3) ?hd (cs := #[.int .i64 a0_0, .int .i64 a0_1]) (t := 24) ?hr ?_; (case hd => rfl); (case hg => rfl); (case hr => exact zG); intro gb210 hg w6 hbox hb; have BK210 := aM hbox; have GW210 := aM (by rw [hg]; exact (below_size zB) : w.heap.size ≤ gb210); replace HB := aM (below_step zB hb); have GE210 := GW210; clear hb hbox hg) | ((with_reducible refine gate_dst (N := 6) rfl ?_); refine box_event ?hg (N := 6) ?hd (cs := #[.int .i64 0, .int .i64 0]) (t := 24) ?hr ?_; (case hd => rfl); (case hg => rfl); (case hr => exact zG); intro gb211 hg w7 hbox hb; have BK211 := aM hbox; have GW211 := aM (by rw [hg]; exact (below_size zB) : w.heap.size ≤ gb211); replace HB := aM (below_step zB hb); have GE211 := GW211; have NB210_211 := aM (by rw [hg]; exact Nat.ne_of_lt (blk_lt (zK BK210.out)) : gb210 ≠ gb211); replace BK210 := aM (zX BK210.out hb); have NB211_210 := aM NB210_211.out.symm; clear hb hbox hg; have hnb8 := NB210_211.out; have hnc8 := NB211_210.out; obtain ⟨_, _, _, _⟩ := cz2 BK210.out; obtain ⟨_, _, _, _⟩ := cz2 BK211.out))
   refine bodyPost_ret (results_ct rfl _ _ gb211 24 #[.int .i64 a2, .int .i64 a0_1] (0, 0) _ rfl (zQ2 BK211.out) Tryz.underlying24 rfl (by kernel_rfl)) rfl ?_
   exact ⟨zE, zB⟩
  ·rw [if_neg c5] at H; (have c5b0 : (a0_0 == 0 && (a0_1 == 0)) = false := by simpa using c5)
   (try (have c5b1 : decide (a0_0 = 0 && (a0_1 == 0)) = false := by simpa using c5))
   (try (have c5b2 : (a0_0 == 0 && (a0_1 == 0)) = false := by simpa using c5))
   (try (have c5b3 : ¬ (a0_0 = 0 && (a0_1 == 0)) := by simpa using c5))
   clear c5; simp only [Option.some.injEq, Prod.mk.injEq] at H; obtain ⟨rfl, rfl, rfl⟩ := H
   go_enter Tryz.func139, Tryz.ntmps139
   go_wp2_with (first | ((with_reducible refine gate_dst (N := 3) rfl ?_); refine box_event ?hg (N := 3) ?hd (cs := #[.int .i64 a0_0, .int .i64 a0_1]) (t := 24) ?hr ?_; (case hd => rfl); (case hg => rfl); (case hr => exact zG); intro gb210 hg w11 hbox hb; have BK210 := aM hbox; have GW210 := aM (by rw [hg]; exact (below_size zB) : w.heap.size ≤ gb210); replace HB := aM (below_step zB hb); have GE210 := GW210; clear hb hbox hg) | ((with_reducible refine gate_dst (N := 6) rfl ?_); refine box_event ?hg (N := 6) ?hd (cs := #[.int .i64 0, .int .i64 0]) (t := 24) ?hr ?_; (case hd => rfl); (case hg => rfl); (case hr => exact zG); intro gb211 hg w12 hbox hb; have BK211 := aM hbox; have GW211 := aM (by rw [hg]; exact (below_size zB) : w.heap.size ≤ gb211); replace HB := aM (below_step zB hb); have GE211 := GW211; have NB210_211 := aM (by rw [hg]; exact Nat.ne_of_lt (blk_lt (zK BK210.out)) : gb210 ≠ gb211); replace BK210 := aM (zX BK210.out hb); have NB211_210 := aM NB210_211.out.symm; clear hb hbox hg; have hnb13 := NB210_211.out; have hnc13 := NB211_210.out; obtain ⟨_, _, _, _⟩ := cz2 BK210.out; obtain ⟨_, _, _, _⟩ := cz2 BK211.out))
   refine bodyPost_ret (results_ct rfl _ _ gb211 24 #[.int .i64 a0_0, .int .i64 a0_1] (0, 0) _ rfl (zQ2 BK211.out) Tryz.underlying24 rfl (by kernel_rfl)) rfl ?_
   exact ⟨zE, zB⟩
 ·rw [if_neg c4] at H; obtain ⟨c4b0, c4b1⟩ := ze c4; simp only [Option.some.injEq, Prod.mk.injEq] at H; obtain ⟨rfl, rfl, rfl⟩ := H
  go_enter Tryz.func139, Tryz.ntmps139
  go_wp2_with (first | ((with_reducible refine gate_dst (N := 3) rfl ?_); refine box_event ?hg (N := 3) ?hd (cs := #[.int .i64 a0_0, .int .i64 a0_1]) (t := 24) ?hr ?_; (case hd => rfl); (case hg => rfl); (case hr => exact zG); intro gb210 hg w16 hbox hb; have BK210 := aM hbox; have GW210 := aM (by rw [hg]; exact (below_size zB) : w.heap.size ≤ gb210); replace HB := aM (below_step zB hb); have GE210 := GW210; clear hb hbox hg) | ((with_reducible refine gate_dst (N := 6) rfl ?_); refine box_event ?hg (N := 6) ?hd (cs := #[.int .i64 0, .int .i64 0]) (t := 24) ?hr ?_; (case hd => rfl); (case hg => rfl); (case hr => exact zG); intro gb211 hg w17 hbox hb; have BK211 := aM hbox; have GW211 := aM (by rw [hg]; exact (below_size zB) : w.heap.size ≤ gb211); replace HB := aM (below_step zB hb); have GE211 := GW211; have NB210_211 := aM (by rw [hg]; exact Nat.ne_of_lt (blk_lt (zK BK210.out)) : gb210 ≠ gb211); replace BK210 := aM (zX BK210.out hb); have NB211_210 := aM NB210_211.out.symm; clear hb hbox hg; have hnb18 := NB210_211.out; have hnc18 := NB211_210.out; obtain ⟨_, _, _, _⟩ := cz2 BK210.out; obtain ⟨_, _, _, _⟩ := cz2 BK211.out))
  refine bodyPost_ret (results_ct rfl _ _ gb211 24 #[.int .i64 a0_0, .int .i64 a0_1] (0, 0) _ rfl (zQ2 BK211.out) Tryz.underlying24 rfl (by kernel_rfl)) rfl ?_
  exact ⟨zE, zB⟩

end Go.Proofs.YtapeodbgobkjeaaGreatDoor.P
