/- Printed by a program of the session out of the translation: plain Lean functions, each with the contract that the Go function computes it. -/
import Derived.Test.YthmallhjbhphgaaGreatDoorHZm
import Derived.Test.YthmallhjbhphgaaGreatDoorHZ
import Derived.Test.YthmallhjbhphgaaGreatDoorPx0
import Derived.Test.YthmallhjbhphgaaGreatDoorPx8
import Derived.Test.YthmallhjbhphgaaGreatDoorPx9
namespace Go.Proofs.YthmallhjbhphgaaGreatDoor.P
open Go.RowKit Go.Proofs.YthmallhjbhphgaaGreatDoorW.PrintWords Go.Proofs.YthmallhjbhphgaaGreatDoorW.PrintLast Go.Proofs.YthmallhjbhphgaaGreatDoorW.PrintMore
attribute [local go_sem] max2_int min2_int max_two min_two max_three min_three max_four min_four   -- for this text's walks alone
set_option linter.unusedVariables false
set_option linter.unusedSimpArgs false

mutual
def lockageref13_plain.l0 : Nat → ByteArray → ByteArray → Int → Option (ByteArray × Bool)
 | 0, _, _, _ => none
 | k + 1, x0, x4, x5 => if x5 < (x0.size : Int) then (if 0 ≤ x5 then (if (bt x0 x5) < 33 then (lockageref13_plain.j1 k x0 x4 x5 (bt x0 x5) true) else (if (bt x0 x5) > 126 then (lockageref13_plain.j1 k x0 x4 x5 (bt x0 x5) true) else (lockageref13_plain.j1 k x0 x4 x5 (bt x0 x5) ((bt x0 x5) == 35)))) else (none)) else (some (x4, true))
def lockageref13_plain.j1 : Nat → ByteArray → ByteArray → Int → Int → Bool → Option (ByteArray × Bool)
 | 0, _, _, _, _, _ => none
 | k + 1, x0, x4, x5, x6, x27 => if x27 = true then (some ((⟨#[]⟩ : ByteArray), false)) else (if x6 = 37 then (if (wrap64 (x5 + 2)) ≥ (x0.size : Int) then (some ((⟨#[]⟩ : ByteArray), false)) else (if 0 ≤ (wrap64 (x5 + 1)) then (if (wrap64 (x5 + 1)) ≤ (wrap64 (x5 + 3)) then (if (wrap64 (x5 + 3)) ≤ (x0.size : Int) then ((lockageref03_Parse.f k (x0.extract ((wrap64 (x5 + 1)) : Int).toNat ((wrap64 (x5 + 3)) : Int).toNat) 16).bind fun bt305 => (if bt305.2 = 0 then (lockageref13_plain.j2 k x0 x4 x5 bt305.1 (bt305.1 == 0)) else (lockageref13_plain.j2 k x0 x4 x5 bt305.1 true))) else (none)) else (none)) else (none))) else (if 0 ≤ x5 then (if x5 ≤ (wrap64 (x5 + 1)) then (if (wrap64 (x5 + 1)) ≤ (x0.size : Int) then (if x4.size + (x0.extract (x5 : Int).toNat ((wrap64 (x5 + 1)) : Int).toNat).size ≤ 9223372036854775807 then (lockageref13_plain.l0 k x0 (x4 ++ (x0.extract (x5 : Int).toNat ((wrap64 (x5 + 1)) : Int).toNat)) (wrap64 (x5 + 1))) else (none)) else (none)) else (none)) else (none)))
def lockageref13_plain.j2 : Nat → ByteArray → ByteArray → Int → Int → Bool → Option (ByteArray × Bool)
 | 0, _, _, _, _, _ => none
 | k + 1, x0, x4, x5, x7, x57 => if x57 = true then (some ((⟨#[]⟩ : ByteArray), false)) else ((lockageref13_free.f ((x7) % 256)).bind fun t307 => (if t307 = true then ((some (([(x7) % 256] : List Int) : List Int)).bind fun y308 => (if x4.size + (strOfNums y308).size ≤ 9223372036854775807 then (lockageref13_plain.l0 k x0 (x4 ++ (strOfNums y308)) (wrap64 ((wrap64 (x5 + 2)) + 1))) else (none))) else (if x4.size + 1 ≤ 9223372036854775807 then (if 0 ≤ (wrap64 (Int.tdiv x7 16)) then (if (wrap64 (Int.tdiv x7 16)) ≤ (wrap64 ((wrap64 (Int.tdiv x7 16)) + 1)) then (if (wrap64 ((wrap64 (Int.tdiv x7 16)) + 1)) ≤ 16 then (if (x4 ++ (⟨#[37]⟩ : ByteArray)).size + ((⟨#[48, 49, 50, 51, 52, 53, 54, 55, 56, 57, 65, 66, 67, 68, 69, 70]⟩ : ByteArray).extract ((wrap64 (Int.tdiv x7 16)) : Int).toNat ((wrap64 ((wrap64 (Int.tdiv x7 16)) + 1)) : Int).toNat).size ≤ 9223372036854775807 then (if 0 ≤ (Int.tmod x7 16) then (if (Int.tmod x7 16) ≤ (wrap64 ((Int.tmod x7 16) + 1)) then (if (wrap64 ((Int.tmod x7 16) + 1)) ≤ 16 then (if ((x4 ++ (⟨#[37]⟩ : ByteArray)) ++ ((⟨#[48, 49, 50, 51, 52, 53, 54, 55, 56, 57, 65, 66, 67, 68, 69, 70]⟩ : ByteArray).extract ((wrap64 (Int.tdiv x7 16)) : Int).toNat ((wrap64 ((wrap64 (Int.tdiv x7 16)) + 1)) : Int).toNat)).size + ((⟨#[48, 49, 50, 51, 52, 53, 54, 55, 56, 57, 65, 66, 67, 68, 69, 70]⟩ : ByteArray).extract ((Int.tmod x7 16) : Int).toNat ((wrap64 ((Int.tmod x7 16) + 1)) : Int).toNat).size ≤ 9223372036854775807 then (lockageref13_plain.l0 k x0 (((x4 ++ (⟨#[37]⟩ : ByteArray)) ++ ((⟨#[48, 49, 50, 51, 52, 53, 54, 55, 56, 57, 65, 66, 67, 68, 69, 70]⟩ : ByteArray).extract ((wrap64 (Int.tdiv x7 16)) : Int).toNat ((wrap64 ((wrap64 (Int.tdiv x7 16)) + 1)) : Int).toNat)) ++ ((⟨#[48, 49, 50, 51, 52, 53, 54, 55, 56, 57, 65, 66, 67, 68, 69, 70]⟩ : ByteArray).extract ((Int.tmod x7 16) : Int).toNat ((wrap64 ((Int.tmod x7 16) + 1)) : Int).toNat)) (wrap64 ((wrap64 (x5 + 2)) + 1))) else (none)) else (none)) else (none)) else (none)) else (none)) else (none)) else (none)) else (none)) else (none))))
end
def lockageref13_plain.f (k : Nat) (a0 : ByteArray) : Option (ByteArray × Bool) := lockageref13_plain.l0 k a0 (⟨#[]⟩ : ByteArray) 0
theorem lockageref13_plain.mono_l : ∀ k, (∀ y0 y1 y2, LeO (lockageref13_plain.l0 k y0 y1 y2) (lockageref13_plain.l0 (k + 1) y0 y1 y2)) ∧ (∀ y0 y1 y2 y3 y4, LeO (lockageref13_plain.j1 k y0 y1 y2 y3 y4) (lockageref13_plain.j1 (k + 1) y0 y1 y2 y3 y4)) ∧ (∀ y0 y1 y2 y3 y4, LeO (lockageref13_plain.j2 k y0 y1 y2 y3 y4) (lockageref13_plain.j2 (k + 1) y0 y1 y2 y3 y4))
 | 0 => ⟨fun _ _ _ r h => by simp [lockageref13_plain.l0] at h, fun _ _ _ _ _ r h => by simp [lockageref13_plain.j1] at h, fun _ _ _ _ _ r h => by simp [lockageref13_plain.j2] at h⟩
 | k + 1 => by
  obtain ⟨ih0, ih1, ih2⟩ := lockageref13_plain.mono_l k
  refine ⟨?_, ?_, ?_⟩
  ·intro y0 y1 y2
   unfold lockageref13_plain.l0; have m0 := @lockageref03_Parse.mono; exact zM
  ·intro y0 y1 y2 y3 y4
   unfold lockageref13_plain.j1; have m0 := @lockageref03_Parse.mono; exact zM
  ·intro y0 y1 y2 y3 y4
   unfold lockageref13_plain.j2; have m0 := @lockageref03_Parse.mono; exact zM
theorem lockageref13_plain.mono : ∀ a0 k, LeO (lockageref13_plain.f k a0) (lockageref13_plain.f (k + 1) a0) := by
 intro a0 k
 obtain ⟨ih0, ih1, ih2⟩ := lockageref13_plain.mono_l k
 unfold lockageref13_plain.f; have m0 := @lockageref03_Parse.mono; exact zM
set_option maxHeartbeats 8000000 in
set_option maxRecDepth 100000 in
theorem lockageref13_plain.calls (k : Nat) (a0 : ByteArray) (r1 : ByteArray) (r2 : Bool) (w : World) (h : lockageref13_plain.f k a0 = some (r1, r2)) :
  Calls Tryz.prog 62 #[.string a0] w fun e w' => e = .returned (.tuple #[.string r1, .bool r2]) ∧ Below w.heap.size w w' := by
 have HB := aM (Below.refl w.heap.size w); have H : (lockageref13_plain.l0 k a0 (⟨#[]⟩ : ByteArray) 0) = some (r1, r2) := h; clear h; have H' := aM H; clear H
 go_enter Tryz.func62, Tryz.ntmps62
 go_wp2
 repeat (go_quiet (fail); try go_wp2)
 go_loopg [4, 5] k (fun kq v4 v5 w' => ∃ (x4_1 : ByteArray) (x5_1 : Int), v4 = .string x4_1 ∧ v5 = .int .i64 x5_1 ∧ Aside0 (lockageref13_plain.l0 kq a0 x4_1 x5_1 = some (r1, r2)) ∧ Aside0 (kq ≤ k) ∧ Aside0 (Below w.heap.size w w'))
 case atStart => exact ⟨((⟨#[]⟩ : ByteArray)), (0), zR, zR, H', ⟨Nat.le_refl _⟩, ⟨zB⟩⟩
 case round =>
  clear H'; obtain ⟨x4_1, x5_1, rfl, rfl, HA, HK1, HB⟩ := hrel; cases gk with
  | zero => exact absurd HA.out (by simp [lockageref13_plain.l0])
  | succ k1 =>
   have H := HA.out; clear HA; simp only [lockageref13_plain.l0] at H; by_cases c2 : x5_1 < (a0.size : Int)
   ·rw [if_pos c2] at H; have c2b0 := decide_eq_true c2; clear c2; by_cases c3 : 0 ≤ x5_1
    ·rw [if_pos c3] at H; have c3b0 := decide_eq_true c3; clear c3; have HC5 := aM H; clear H; have p4 : 0 ≤ (x5_1 : Int) := of_decide_eq_true zA; have q4 : x5_1 < (a0.size : Int) := of_decide_eq_true zA; have hx4 := bt_at a0 x5_1; replace p4 := eq_true p4; replace q4 := eq_true q4
     go_upto_region 6 with (fail)
     repeat (go_quiet (fail); go_upto_region 6 with (fail))
     go_cut [27] (fun v27 wc => ∃ (kq : Nat) (x27_4 : Bool), v27 = .bool x27_4 ∧ Aside0 (lockageref13_plain.j1 kq a0 x4_1 x5_1 (bt a0 x5_1) x27_4 = some (r1, r2)) ∧ Aside0 (kq ≤ k1) ∧ Aside0 (Below w.heap.size w wc))
     case first =>
      have H := HC5.out; clear HC5; by_cases c6 : (bt a0 x5_1) < 33
      ·rw [if_pos c6] at H; have c6b0 := decide_eq_true c6; clear c6
       (first | rw [c6b0] | (simp only [i64_w, i32_w]; rw [c6b0]) | skip)
       have H' := aM H; clear H
       go_wp2
       repeat (go_quiet (fail); try go_wp2)
       go_meet
       case rel => exact ⟨_, (true), zR, H', ⟨by have := HK1.out; first | omega | exact Nat.le_refl _⟩, ⟨zB⟩⟩
      ·rw [if_neg c6] at H; have c6b0 := decide_eq_false c6; clear c6
       (first | rw [c6b0] | (simp only [i64_w, i32_w]; rw [c6b0]) | skip)
       by_cases c7 : (bt a0 x5_1) > 126
       ·rw [if_pos c7] at H; have c7b0 := decide_eq_true c7; clear c7; have H' := aM H; clear H
        go_wp2
        repeat (go_quiet (fail); try go_wp2)
        go_meet
        case rel => exact ⟨_, (true), zR, H', ⟨by have := HK1.out; first | omega | exact Nat.le_refl _⟩, ⟨zB⟩⟩
       ·rw [if_neg c7] at H; have c7b0 := decide_eq_false c7; clear c7; have H' := aM H; clear H
        go_wp2
        repeat (go_quiet (fail); try go_wp2)
        go_meet
        case rel => exact ⟨_, (((bt a0 x5_1) == 35)), zR, H', ⟨by have := HK1.out; first | omega | exact Nat.le_refl _⟩, ⟨zB⟩⟩
     case rest =>
      clear HC5; (try clear c2); (try clear c2b0); (try clear p2); (try clear c3); (try clear c3b0); (try clear p4); (try clear q4); (try clear hx4); (try clear c6); (try clear c6b0); (try clear c7); (try clear c7b0); (try clear p4); (try clear q4); obtain ⟨kq, x27_4, rfl, HA, HJ4, HB⟩ := hcut; cases kq with
      | zero => exact absurd HA.out (by simp [lockageref13_plain.j1])
      | succ kj4 =>
       have H := HA.out; clear HA; simp only [lockageref13_plain.j1] at H; by_cases c8 : x27_4 = true
       ·subst c8; rw [if_pos rfl] at H; simp only [Option.some.injEq, Prod.mk.injEq] at H; obtain ⟨rfl, rfl⟩ := H
        go_wp2
        repeat (go_quiet (fail); try go_wp2)
        go_ret2
        exact ⟨zE, zB⟩
       ·replace c8 := Bool.eq_false_iff.mpr c8; subst c8; rw [if_neg (show ¬ (false = true) by decide)] at H; by_cases c9 : (bt a0 x5_1) = 37
        ·rw [if_pos c9] at H; obtain ⟨c9b0, c9b1⟩ := zd c9; clear c9; by_cases c10 : (wrap64 (x5_1 + 2)) ≥ (a0.size : Int)
         ·rw [if_pos c10] at H; have c10b0 := decide_eq_true c10; clear c10; simp only [Option.some.injEq, Prod.mk.injEq] at H; obtain ⟨rfl, rfl⟩ := H
          go_wp2
          repeat (go_quiet (fail); try go_wp2)
          go_ret2
          exact ⟨zE, zB⟩
         ·rw [if_neg c10] at H; have c10b0 := decide_eq_false c10; clear c10; obtain ⟨ji11, hji11⟩ : ∃ j_ : Int, (wrap64 (x5_1 + 1)) = j_ := ⟨_, rfl⟩
          (first | rw [hji11] at H | simp only [hji11] at H)
          have hji11w : (IntKind.i64.wrap (x5_1 + 1)) = ji11 := (i64_w _).trans hji11; by_cases c12 : 0 ≤ (ji11)
          ·rw [if_pos c12] at H; have c12b0 := eq_true c12; have c12b1 := decide_eq_true c12; clear c12; by_cases c13 : (ji11) ≤ (wrap64 (x5_1 + 3))
           ·rw [if_pos c13] at H; have c13b0 := eq_true c13; have c13b1 := decide_eq_true c13; by_cases c14 : (wrap64 (x5_1 + 3)) ≤ (a0.size : Int)
            ·rw [if_pos c14] at H; have c14b0 := eq_true c14; have c14b1 := decide_eq_true c14; replace H := Option.bind_eq_some_iff.mp H; obtain ⟨⟨t305, t306⟩, A150, H⟩ := H; replace H : (if t306 = 0 then (lockageref13_plain.j2 kj4 a0 x4_1 x5_1 t305 (t305 == 0)) else (lockageref13_plain.j2 kj4 a0 x4_1 x5_1 t305 true)) = some (r1, r2) := H; have A15 := aM A150; clear A150; have HC16 := aM H; clear H
             go_upto_region 13 with (first | (go_at_call 80; (with_reducible refine (lockageref03_Parse.calls kj4 (a0.extract ((ji11) : Int).toNat ((wrap64 (x5_1 + 3)) : Int).toNat) 16 t305 t306 _ A15.out).mono ?_); rintro e w' ⟨rfl, ⟨nd, rfl⟩⟩; (try first | exact ⟨rfl, _, World.drewN_drewN _ _ _⟩ | exact ⟨rfl, _, Eq.trans (World.drewN_drewN _ _ _) (congrArg (World.drewN _) (Nat.add_assoc _ _ _))⟩)))
             repeat (go_quiet (first | (go_at_call 80; (with_reducible refine (lockageref03_Parse.calls kj4 (a0.extract ((ji11) : Int).toNat ((wrap64 (x5_1 + 3)) : Int).toNat) 16 t305 t306 _ A15.out).mono ?_); rintro e w' ⟨rfl, ⟨nd, rfl⟩⟩; (try first | exact ⟨rfl, _, World.drewN_drewN _ _ _⟩ | exact ⟨rfl, _, Eq.trans (World.drewN_drewN _ _ _) (congrArg (World.drewN _) (Nat.add_assoc _ _ _))⟩))); go_upto_region 13 with (first | (go_at_call 80; (with_reducible refine (lockageref03_Parse.calls kj4 (a0.extract ((ji11) : Int).toNat ((wrap64 (x5_1 + 3)) : Int).toNat) 16 t305 t306 _ A15.out).mono ?_); rintro e w' ⟨rfl, ⟨nd, rfl⟩⟩; (try first | exact ⟨rfl, _, World.drewN_drewN _ _ _⟩ | exact ⟨rfl, _, Eq.trans (World.drewN_drewN _ _ _) (congrArg (World.drewN _) (Nat.add_assoc _ _ _))⟩))))
             (try simp only [Act.put, List.setIfInBounds_toArray, List.set_cons_zero, List.set_cons_succ])
             go_cut [57] (fun v57 wc => ∃ (kq : Nat) (x57_15 : Bool), v57 = .bool x57_15 ∧ Aside0 (lockageref13_plain.j2 kq a0 x4_1 x5_1 t305 x57_15 = some (r1, r2)) ∧ Aside0 (kq ≤ kj4) ∧ Aside0 (Below w.heap.size w wc))
             case first =>
              have H := HC16.out; clear HC16; by_cases c17 : t306 = 0
              ·rw [if_pos c17] at H; obtain ⟨c17b0, c17b1⟩ := zd c17; clear c17
               (first | rw [c17b0] | (simp only [i64_w, i32_w]; rw [c17b0]) | skip)
               have H' := aM H; clear H
               go_wp2
               repeat (go_quiet (fail); try go_wp2)
               go_meet
               case rel => exact ⟨_, ((t305 == 0)), zR, H', ⟨by have := HK1.out; have := HJ4.out; first | omega | exact Nat.le_refl _⟩, ⟨zB⟩⟩
              ·rw [if_neg c17] at H; obtain ⟨c17b0, c17b1⟩ := ze c17
               (first | rw [c17b0] | (simp only [i64_w, i32_w]; rw [c17b0]) | skip)
               have H' := aM H; clear H
               go_wp2
               repeat (go_quiet (fail); try go_wp2)
               go_meet
               case rel => exact ⟨_, (true), zR, H', ⟨by have := HK1.out; have := HJ4.out; first | omega | exact Nat.le_refl _⟩, ⟨zB⟩⟩
             case rest =>
              clear HC16; (try clear c1); (try clear c2); (try clear c2b0); (try clear p2); (try clear c3); (try clear c3b0); (try clear p4); (try clear q4); (try clear hx4); (try clear c6); (try clear c6b0); (try clear p6); (try clear c7); (try clear c7b0); (try clear c8); (try clear c9); (try clear c9b0); (try clear c9b1); (try clear c10); (try clear c10b0); (try clear c12); (try clear c12b0); (try clear c12b1); (try clear c13); (try clear c13b0); (try clear c13b1); (try clear c14); (try clear c14b0); (try clear c14b1); (try clear c17); (try clear c17b0); (try clear c17b1); (try clear p2); (try clear p4); (try clear q4); obtain ⟨kq, x57_15, rfl, HA, HJ15, HB⟩ := hcut; cases kq with
              | zero => exact absurd HA.out (by simp [lockageref13_plain.j2])
              | succ kj15 =>
               have H := HA.out; clear HA; simp only [lockageref13_plain.j2] at H; by_cases c18 : x57_15 = true
               ·subst c18; rw [if_pos rfl] at H; simp only [Option.some.injEq, Prod.mk.injEq] at H; obtain ⟨rfl, rfl⟩ := H
                go_wp2
                repeat (go_quiet (fail); try go_wp2)
                go_ret2
                exact ⟨by first | rfl | (simp [errW_none, errW_some] <;> rfl) | (simp only [← hji11]; first | rfl | (simp [errW_none, errW_some] <;> rfl)) | (simp [*, errW_none, errW_some] <;> rfl), zB⟩
               ·replace c18 := Bool.eq_false_iff.mpr c18; subst c18; rw [if_neg (show ¬ (false = true) by decide)] at H; obtain ⟨t307, A19, H⟩ := zc H; (try dsimp only at H); by_cases c20 : t307 = true
                ·subst c20; rw [if_pos rfl] at H; obtain ⟨y308, hy308, H⟩ := zb H; have Ny308 := aM hy308; clear hy308; by_cases c21 : x4_1.size + (strOfNums y308).size ≤ 9223372036854775807
                 ·rw [if_pos c21] at H; have c21b0 := eq_true c21; have c21b1 := decide_eq_true c21
                  try have c21b2 : (9223372036854775807 < x4_1.size + (strOfNums y308).size) = False := eq_false (Nat.not_lt.2 c21)
                  have H' := aM H; clear H
                  go_wp2_with (first | (go_at_call 81; (with_reducible refine (lockageref13_free.calls ((t305) % 256) true _ A19.out).mono ?_); rintro e w' ⟨rfl, ⟨nd, rfl⟩⟩; (try first | exact ⟨rfl, _, World.drewN_drewN _ _ _⟩ | exact ⟨rfl, _, Eq.trans (World.drewN_drewN _ _ _) (congrArg (World.drewN _) (Nat.add_assoc _ _ _))⟩)) | ((with_reducible refine gate_dst (N := 64) rfl ?_); refine Kd.R_lit (Kd.int .u8) _ 5 ?hg (N := 64) ?hd (xs := ([(t305) % 256] : List Int)) (inner := [.int .u8 ((t305) % 256)]) (ok := fun _ => True) (okp := fun _ => True) ?hr ?hp (fun _ hk => hk) trivial (Below.refl _ _) (Nat.le_refl _) (by simp) ?_; (case hd => rfl); (case hg => rfl); (case hr => exact zG); (case hp => exact (Reps.one (show Kd.M (Kd.int .u8) _ _ _ ((t305) % 256) [.int .u8 ((t305) % 256)] from rfl) (Reps.none _ _))); intro v309 w22 ho23 hb hg_ hnew_; clear hg_ hnew_; (first | rw [← Ny308.out] at ho23 | (simp only [Int.reduceToNat] at ho23; rw [← Ny308.out] at ho23)); have HO310 := aM (Kd.R_lower ho23 (below_size zB)); replace HB := aM (below_step zB hb); clear hb ho23; have hcv24 := own_string (P := Tryz.prog) Tryz.underlying31 Tryz.underlying5 Tryz.underlying9 (Kd.own_of_R HO310.out)))
                  repeat (go_quiet (first | (go_at_call 81; (with_reducible refine (lockageref13_free.calls ((t305) % 256) true _ A19.out).mono ?_); rintro e w' ⟨rfl, ⟨nd, rfl⟩⟩; (try first | exact ⟨rfl, _, World.drewN_drewN _ _ _⟩ | exact ⟨rfl, _, Eq.trans (World.drewN_drewN _ _ _) (congrArg (World.drewN _) (Nat.add_assoc _ _ _))⟩)) | ((with_reducible refine gate_dst (N := 64) rfl ?_); refine Kd.R_lit (Kd.int .u8) _ 5 ?hg (N := 64) ?hd (xs := ([(t305) % 256] : List Int)) (inner := [.int .u8 ((t305) % 256)]) (ok := fun _ => True) (okp := fun _ => True) ?hr ?hp (fun _ hk => hk) trivial (Below.refl _ _) (Nat.le_refl _) (by simp) ?_; (case hd => rfl); (case hg => rfl); (case hr => exact zG); (case hp => exact (Reps.one (show Kd.M (Kd.int .u8) _ _ _ ((t305) % 256) [.int .u8 ((t305) % 256)] from rfl) (Reps.none _ _))); intro v309 w22 ho23 hb hg_ hnew_; clear hg_ hnew_; (first | rw [← Ny308.out] at ho23 | (simp only [Int.reduceToNat] at ho23; rw [← Ny308.out] at ho23)); have HO310 := aM (Kd.R_lower ho23 (below_size zB)); replace HB := aM (below_step zB hb); clear hb ho23; have hcv24 := own_string (P := Tryz.prog) Tryz.underlying31 Tryz.underlying5 Tryz.underlying9 (Kd.own_of_R HO310.out))); try go_wp2_with (first | (go_at_call 81; (with_reducible refine (lockageref13_free.calls ((t305) % 256) true _ A19.out).mono ?_); rintro e w' ⟨rfl, ⟨nd, rfl⟩⟩; (try first | exact ⟨rfl, _, World.drewN_drewN _ _ _⟩ | exact ⟨rfl, _, Eq.trans (World.drewN_drewN _ _ _) (congrArg (World.drewN _) (Nat.add_assoc _ _ _))⟩)) | ((with_reducible refine gate_dst (N := 64) rfl ?_); refine Kd.R_lit (Kd.int .u8) _ 5 ?hg (N := 64) ?hd (xs := ([(t305) % 256] : List Int)) (inner := [.int .u8 ((t305) % 256)]) (ok := fun _ => True) (okp := fun _ => True) ?hr ?hp (fun _ hk => hk) trivial (Below.refl _ _) (Nat.le_refl _) (by simp) ?_; (case hd => rfl); (case hg => rfl); (case hr => exact zG); (case hp => exact (Reps.one (show Kd.M (Kd.int .u8) _ _ _ ((t305) % 256) [.int .u8 ((t305) % 256)] from rfl) (Reps.none _ _))); intro v309 w22 ho23 hb hg_ hnew_; clear hg_ hnew_; (first | rw [← Ny308.out] at ho23 | (simp only [Int.reduceToNat] at ho23; rw [← Ny308.out] at ho23)); have HO310 := aM (Kd.R_lower ho23 (below_size zB)); replace HB := aM (below_step zB hb); clear hb ho23; have hcv24 := own_string (P := Tryz.prog) Tryz.underlying31 Tryz.underlying5 Tryz.underlying9 (Kd.own_of_R HO310.out))))
                  go_roundg kj15
                  case measure => have := HK1.out; have := HJ4.out; have := HJ15.out; omega
                  case rel => exact ⟨(x4_1 ++ (strOfNums y308)), (wrap64 ((wrap64 (x5_1 + 2)) + 1)), zR, zR, H', ⟨by have := HK1.out; have := HJ4.out; have := HJ15.out; omega⟩, ⟨zB⟩⟩
                 ·exact zf c21 H
                ·replace c20 := Bool.eq_false_iff.mpr c20; subst c20; rw [if_neg (show ¬ (false = true) by decide)] at H; by_cases c25 : x4_1.size + 1 ≤ 9223372036854775807
                 ·rw [if_pos c25] at H; have c25b0 := eq_true c25; have c25b1 := decide_eq_true c25
                  try have c25b2 : (9223372036854775807 < x4_1.size + 1) = False := eq_false (Nat.not_lt.2 c25)
                  obtain ⟨ji26, hji26⟩ : ∃ j_ : Int, (wrap64 (Int.tdiv t305 16)) = j_ := ⟨_, rfl⟩
                  (first | rw [hji26] at H | simp only [hji26] at H)
                  (try rw [hji26] at A19)
                  have hji26w : (IntKind.i64.wrap (Int.tdiv t305 16)) = ji26 := (i64_w _).trans hji26; by_cases c27 : 0 ≤ (ji26)
                  ·rw [if_pos c27] at H; have c27b0 := eq_true c27; have c27b1 := decide_eq_true c27; clear c27; by_cases c28 : (ji26) ≤ (wrap64 ((ji26) + 1))
                   ·rw [if_pos c28] at H; have c28b0 := eq_true c28; have c28b1 := decide_eq_true c28; by_cases c29 : (wrap64 ((ji26) + 1)) ≤ 16
                    ·rw [if_pos c29] at H; have c29b0 := eq_true c29; have c29b1 := decide_eq_true c29; by_cases c30 : (x4_1 ++ (⟨#[37]⟩ : ByteArray)).size + ((⟨#[48, 49, 50, 51, 52, 53, 54, 55, 56, 57, 65, 66, 67, 68, 69, 70]⟩ : ByteArray).extract ((ji26) : Int).toNat ((wrap64 ((ji26) + 1)) : Int).toNat).size ≤ 9223372036854775807
                     ·rw [if_pos c30] at H; have c30b0 := eq_true c30; have c30b1 := decide_eq_true c30
                      try have c30b2 : (9223372036854775807 < (x4_1 ++ (⟨#[37]⟩ : ByteArray)).size + ((⟨#[48, 49, 50, 51, 52, 53, 54, 55, 56, 57, 65, 66, 67, 68, 69, 70]⟩ : ByteArray).extract ((ji26) : Int).toNat ((wrap64 ((ji26) + 1)) : Int).toNat).size) = False := eq_false (Nat.not_lt.2 c30)
                      try have c30b9 : (9223372036854775807 < x4_1.size + 1 + ((⟨#[48, 49, 50, 51, 52, 53, 54, 55, 56, 57, 65, 66, 67, 68, 69, 70]⟩ : ByteArray).extract ((ji26) : Int).toNat ((wrap64 ((ji26) + 1)) : Int).toNat).size) = False := eq_false (Nat.not_lt.2 (by have z_ := c30; simp only [ByteArray.size_append] at z_; exact z_))
                      obtain ⟨ji31, hji31⟩ : ∃ j_ : Int, (Int.tmod t305 16) = j_ := ⟨_, rfl⟩
                      (first | rw [hji31] at H | simp only [hji31] at H)
                      (try rw [hji31] at A19)
                      by_cases c32 : 0 ≤ (ji31)
                      ·rw [if_pos c32] at H; have c32b0 := eq_true c32; have c32b1 := decide_eq_true c32; clear c32; by_cases c33 : (ji31) ≤ (wrap64 ((ji31) + 1))
                       ·rw [if_pos c33] at H; have c33b0 := eq_true c33; have c33b1 := decide_eq_true c33; by_cases c34 : (wrap64 ((ji31) + 1)) ≤ 16
                        ·rw [if_pos c34] at H; have c34b0 := eq_true c34; have c34b1 := decide_eq_true c34; by_cases c35 : ((x4_1 ++ (⟨#[37]⟩ : ByteArray)) ++ ((⟨#[48, 49, 50, 51, 52, 53, 54, 55, 56, 57, 65, 66, 67, 68, 69, 70]⟩ : ByteArray).extract ((ji26) : Int).toNat ((wrap64 ((ji26) + 1)) : Int).toNat)).size + ((⟨#[48, 49, 50, 51, 52, 53, 54, 55, 56, 57, 65, 66, 67, 68, 69, 70]⟩ : ByteArray).extract ((ji31) : Int).toNat ((wrap64 ((ji31) + 1)) : Int).toNat).size ≤ 9223372036854775807
                         ·rw [if_pos c35] at H; have c35b0 := eq_true c35; have c35b1 := decide_eq_true c35
                          try have c35b2 : (9223372036854775807 < ((x4_1 ++ (⟨#[37]⟩ : ByteArray)) ++ ((⟨#[48, 49, 50, 51, 52, 53, 54, 55, 56, 57, 65, 66, 67, 68, 69, 70]⟩ : ByteArray).extract ((ji26) : Int).toNat ((wrap64 ((ji26) + 1)) : Int).toNat)).size + ((⟨#[48, 49, 50, 51, 52, 53, 54, 55, 56, 57, 65, 66, 67, 68, 69, 70]⟩ : ByteArray).extract ((ji31) : Int).toNat ((wrap64 ((ji31) + 1)) : Int).toNat).size) = False := eq_false (Nat.not_lt.2 c35)
                          try have c35b9 : (9223372036854775807 < x4_1.size + 1 + ((⟨#[48, 49, 50, 51, 52, 53, 54, 55, 56, 57, 65, 66, 67, 68, 69, 70]⟩ : ByteArray).extract ((ji26) : Int).toNat ((wrap64 ((ji26) + 1)) : Int).toNat).size + ((⟨#[48, 49, 50, 51, 52, 53, 54, 55, 56, 57, 65, 66, 67, 68, 69, 70]⟩ : ByteArray).extract ((ji31) : Int).toNat ((wrap64 ((ji31) + 1)) : Int).toNat).size) = False := eq_false (Nat.not_lt.2 (by have z_ := c35; simp only [ByteArray.size_append] at z_; exact z_))
                          have H' := aM H; clear H
                          go_wp2_with (first | (go_at_call 81; (with_reducible refine (lockageref13_free.calls ((t305) % 256) false _ A19.out).mono ?_); rintro e w' ⟨rfl, ⟨nd, rfl⟩⟩; (try first | exact ⟨rfl, _, World.drewN_drewN _ _ _⟩ | exact ⟨rfl, _, Eq.trans (World.drewN_drewN _ _ _) (congrArg (World.drewN _) (Nat.add_assoc _ _ _))⟩)))
                          repeat (go_quiet (first | (go_at_call 81; (with_reducible refine (lockageref13_free.calls ((t305) % 256) false _ A19.out).mono ?_); rintro e w' ⟨rfl, ⟨nd, rfl⟩⟩; (try first | exact ⟨rfl, _, World.drewN_drewN _ _ _⟩ | exact ⟨rfl, _, Eq.trans (World.drewN_drewN _ _ _) (congrArg (World.drewN _) (Nat.add_assoc _ _ _))⟩))); try go_wp2_with (first | (go_at_call 81; (with_reducible refine (lockageref13_free.calls ((t305) % 256) false _ A19.out).mono ?_); rintro e w' ⟨rfl, ⟨nd, rfl⟩⟩; (try first | exact ⟨rfl, _, World.drewN_drewN _ _ _⟩ | exact ⟨rfl, _, Eq.trans (World.drewN_drewN _ _ _) (congrArg (World.drewN _) (Nat.add_assoc _ _ _))⟩))))
                          go_roundg kj15
                          case measure => have := HK1.out; have := HJ4.out; have := HJ15.out; omega
                          case rel => exact ⟨(((x4_1 ++ (⟨#[37]⟩ : ByteArray)) ++ ((⟨#[48, 49, 50, 51, 52, 53, 54, 55, 56, 57, 65, 66, 67, 68, 69, 70]⟩ : ByteArray).extract ((ji26) : Int).toNat ((wrap64 ((ji26) + 1)) : Int).toNat)) ++ ((⟨#[48, 49, 50, 51, 52, 53, 54, 55, 56, 57, 65, 66, 67, 68, 69, 70]⟩ : ByteArray).extract ((ji31) : Int).toNat ((wrap64 ((ji31) + 1)) : Int).toNat)), (wrap64 ((wrap64 (x5_1 + 2)) + 1)), (by first | rfl | (simp; done) | (simp only [← hji26, ← hji31] <;> (first | rfl | simp)) | (simp [*]; done)), zR, H', ⟨by have := HK1.out; have := HJ4.out; have := HJ15.out; omega⟩, ⟨zB⟩⟩
                         ·exact zf c35 H
                        ·exact zf c34 H
                       ·exact zf c33 H
                      ·exact zf c32 H
                     ·exact zf c30 H
                    ·exact zf c29 H
                   ·exact zf c28 H
                  ·exact zf c27 H
                 ·exact zf c25 H
            ·exact zf c14 H
           ·exact zf c13 H
          ·exact zf c12 H
        ·rw [if_neg c9] at H; obtain ⟨c9b0, c9b1⟩ := ze c9; by_cases c36 : 0 ≤ x5_1
         ·rw [if_pos c36] at H; have c36b0 := eq_true c36; have c36b1 := decide_eq_true c36; clear c36; by_cases c37 : x5_1 ≤ (wrap64 (x5_1 + 1))
          ·rw [if_pos c37] at H; have c37b0 := eq_true c37; have c37b1 := decide_eq_true c37; by_cases c38 : (wrap64 (x5_1 + 1)) ≤ (a0.size : Int)
           ·rw [if_pos c38] at H; have c38b0 := eq_true c38; have c38b1 := decide_eq_true c38; by_cases c39 : x4_1.size + (a0.extract (x5_1 : Int).toNat ((wrap64 (x5_1 + 1)) : Int).toNat).size ≤ 9223372036854775807
            ·rw [if_pos c39] at H; have c39b0 := eq_true c39; have c39b1 := decide_eq_true c39
             try have c39b2 : (9223372036854775807 < x4_1.size + (a0.extract (x5_1 : Int).toNat ((wrap64 (x5_1 + 1)) : Int).toNat).size) = False := eq_false (Nat.not_lt.2 c39)
             try have c39b4 : (9223372036854775807 < x4_1.size + ((wrap64 (x5_1 + 1)).toNat - x5_1.toNat)) = False := eq_false (Nat.not_lt.2 (by have z_ := c39; rw [ByteArray.size_extract, Nat.min_eq_left (Int.toNat_le.2 (by first | assumption | exact of_decide_eq_true (by assumption)))] at z_; exact z_))
             have H' := aM H; clear H
             go_wp2
             repeat (go_quiet (fail); try go_wp2)
             go_roundg kj4
             case measure => have := HK1.out; have := HJ4.out; omega
             case rel => exact ⟨(x4_1 ++ (a0.extract (x5_1 : Int).toNat ((wrap64 (x5_1 + 1)) : Int).toNat)), (wrap64 (x5_1 + 1)), zR, zR, H', ⟨by have := HK1.out; have := HJ4.out; omega⟩, ⟨zB⟩⟩
            ·exact zf c39 H
           ·exact zf c38 H
          ·exact zf c37 H
         ·exact zf c36 H
    ·exact zf c3 H
   ·rw [if_neg c2] at H; have c2b0 := decide_eq_false c2; clear c2; simp only [Option.some.injEq, Prod.mk.injEq] at H; obtain ⟨rfl, rfl⟩ := H
    go_wp2
    repeat (go_quiet (fail); try go_wp2)
    go_ret2
    exact ⟨zE, zB⟩

end Go.Proofs.YthmallhjbhphgaaGreatDoor.P
