/- Printed by a program of the session out of the translation: plain Lean functions, each with the contract that the Go function computes it. -/
import Derived.Test.YthemlbefkdmegaaDoorPx0
import Derived.Test.YthemlbefkdmegaaDoorPx4
namespace Go.Proofs.YthemlbefkdmegaaDoor.P
open Go.RowKit Go.Proofs.YthemlbefkdmegaaDoorW.PrintWords Go.Proofs.YthemlbefkdmegaaDoorW.PrintLast Go.Proofs.YthemlbefkdmegaaDoorW.PrintMore
attribute [local go_sem] max2_int min2_int max_two min_two max_three min_three max_four min_four   -- for this text's walks alone
set_option linter.unusedVariables false
set_option linter.unusedSimpArgs false

/-! ### lockageref03_Text: function 22 -/
mutual
def lockageref03_Text.j0 : Nat → Int → Int → Bool → Option (ByteArray)
  | 0, _, _, _ => none
  | k + 1, x0, x1, x16 => if x16 = true then (some (⟨#[]⟩ : ByteArray)) else (if x1 = 0 then (none) else (if 0 ≤ (Int.tmod x0 x1) then (if (Int.tmod x0 x1) ≤ (wrap64 ((Int.tmod x0 x1) + 1)) then (if (wrap64 ((Int.tmod x0 x1) + 1)) ≤ 16 then (if x0 < x1 then (some ((⟨#[48, 49, 50, 51, 52, 53, 54, 55, 56, 57, 97, 98, 99, 100, 101, 102]⟩ : ByteArray).extract ((Int.tmod x0 x1) : Int).toNat ((wrap64 ((Int.tmod x0 x1) + 1)) : Int).toNat)) else ((lockageref03_Text.f k (wrap64 (Int.tdiv x0 x1)) x1).bind fun t217 => (if t217.size + ((⟨#[48, 49, 50, 51, 52, 53, 54, 55, 56, 57, 97, 98, 99, 100, 101, 102]⟩ : ByteArray).extract ((Int.tmod x0 x1) : Int).toNat ((wrap64 ((Int.tmod x0 x1) + 1)) : Int).toNat).size ≤ 9223372036854775807 then (some (t217 ++ ((⟨#[48, 49, 50, 51, 52, 53, 54, 55, 56, 57, 97, 98, 99, 100, 101, 102]⟩ : ByteArray).extract ((Int.tmod x0 x1) : Int).toNat ((wrap64 ((Int.tmod x0 x1) + 1)) : Int).toNat))) else (none)))) else (none)) else (none)) else (none)))
def lockageref03_Text.f : Nat → Int → Int → Option (ByteArray)
  | 0, _, _ => none
  | k + 1, a0, a1 => (lockageref03_Fits.f a0).bind fun t216 => (if t216 = true then (if a1 = 10 then (lockageref03_Text.j0 k a0 a1 false) else (lockageref03_Text.j0 k a0 a1 (a1 != 16))) else (lockageref03_Text.j0 k a0 a1 true))
end
theorem lockageref03_Text.mono_l : ∀ k, (∀ y0 y1, LeO (lockageref03_Text.f k y0 y1) (lockageref03_Text.f (k + 1) y0 y1)) ∧ (∀ y0 y1 y2, LeO (lockageref03_Text.j0 k y0 y1 y2) (lockageref03_Text.j0 (k + 1) y0 y1 y2))
  | 0 => ⟨fun _ _ r h => by simp [lockageref03_Text.f] at h, fun _ _ _ r h => by simp [lockageref03_Text.j0] at h⟩
  | k + 1 => by
    obtain ⟨ih0, ih1⟩ := lockageref03_Text.mono_l k
    refine ⟨?_, ?_⟩
    · intro y0 y1
      unfold lockageref03_Text.f
      repeat' first
      | (with_reducible exact ih0 _ _)
      | (with_reducible exact ih1 _ _ _)
      | (with_reducible exact LeO.refl _)
      | (with_reducible exact LeO.none _)
      | (with_reducible refine LeO.ite ?_ ?_)
      | (with_reducible refine LeO.bind ?_ (fun _ => ?_))
      | exact ih0 _ _
      | exact ih1 _ _ _
      | exact LeO.none _
      | refine LeO.ite ?_ ?_
      | refine LeO.bind ?_ (fun _ => ?_)
    · intro y0 y1 y2
      unfold lockageref03_Text.j0
      repeat' first
      | (with_reducible exact ih0 _ _)
      | (with_reducible exact ih1 _ _ _)
      | (with_reducible exact LeO.refl _)
      | (with_reducible exact LeO.none _)
      | (with_reducible refine LeO.ite ?_ ?_)
      | (with_reducible refine LeO.bind ?_ (fun _ => ?_))
      | exact ih0 _ _
      | exact ih1 _ _ _
      | exact LeO.none _
      | refine LeO.ite ?_ ?_
      | refine LeO.bind ?_ (fun _ => ?_)
theorem lockageref03_Text.mono : ∀ a0 a1 k, LeO (lockageref03_Text.f k a0 a1) (lockageref03_Text.f (k + 1) a0 a1) := by
  intro a0 a1 k
  obtain ⟨ih0, ih1⟩ := lockageref03_Text.mono_l k
  exact ih0 a0 a1
set_option maxHeartbeats 8000000 in
set_option maxRecDepth 100000 in
theorem lockageref03_Text.calls (k : Nat) : ∀ (a0 : Int) (a1 : Int) (r : ByteArray) (w : World) (h : lockageref03_Text.f k a0 a1 = some r),
    Calls Tryd.prog 22 #[.int .i64 a0, .int .i64 a1] w fun e w' => e = .returned (.string r) ∧ Drawn0 w w' := by
  induction k using Nat.strongRecOn with
  | _ k ih =>
  intro a0 a1 r w h
  cases k with
  | zero => exact absurd h (by simp [lockageref03_Text.f])
  | succ k =>
  simp only [lockageref03_Text.f] at h
  have H : ((lockageref03_Fits.f a0).bind fun t216 => (if t216 = true then (if a1 = 10 then (lockageref03_Text.j0 k a0 a1 false) else (lockageref03_Text.j0 k a0 a1 (a1 != 16))) else (lockageref03_Text.j0 k a0 a1 true))) = some r := h
  clear h
  have HC3 := Aside0.mk H
  clear H
  go_enter Tryd.func22, Tryd.ntmps22
  go_upto_region 1 with (fail)
  repeat (go_quiet (fail); go_upto_region 1 with (fail))
  go_cut [16] (fun v16 wc => ∃ (kq : Nat) (x16_2 : Bool), v16 = .bool x16_2 ∧ Aside0 (lockageref03_Text.j0 kq a0 a1 x16_2 = some r) ∧ Aside0 (kq ≤ k) ∧ Drawn0 w wc)
  case first =>
    have H := HC3.out
    clear HC3
    replace H := Option.bind_eq_some_iff.mp H
    obtain ⟨t216, A40, H⟩ := H
    replace H : (if t216 = true then (if a1 = 10 then (lockageref03_Text.j0 k a0 a1 false) else (lockageref03_Text.j0 k a0 a1 (a1 != 16))) else (lockageref03_Text.j0 k a0 a1 true)) = some r := H
    have A4 := Aside0.mk A40
    clear A40
    by_cases c5 : t216 = true
    · subst c5
      have H1 : (if a1 = 10 then (lockageref03_Text.j0 k a0 a1 false) else (lockageref03_Text.j0 k a0 a1 (a1 != 16))) = some r := by rw [if_pos rfl] at H; exact H
      clear H
      have H := H1
      clear H1
      by_cases c6 : a1 = 10
      · rw [if_pos c6] at H
        have c6b0 : (a1 == 10) = true := beq_iff_eq.mpr c6
        have c6b1 : (a1 != 10) = false := bne_eq_false_iff_eq.mpr c6
        clear c6
        (first | rw [c6b0] | (simp only [i64_w, i32_w]; rw [c6b0]) | skip)
        have H' := Aside0.mk H
        clear H
        go_wp2_with (first | (go_at_call 30; (with_reducible refine (lockageref03_Fits.calls a0 true _ A4.out).mono ?_); rintro e w' ⟨rfl, ⟨nd, rfl⟩⟩; (try first | exact ⟨rfl, _, World.drewN_drewN _ _ _⟩ | exact ⟨rfl, _, Eq.trans (World.drewN_drewN _ _ _) (congrArg (World.drewN _) (Nat.add_assoc _ _ _))⟩)))
        repeat (go_quiet (first | (go_at_call 30; (with_reducible refine (lockageref03_Fits.calls a0 true _ A4.out).mono ?_); rintro e w' ⟨rfl, ⟨nd, rfl⟩⟩; (try first | exact ⟨rfl, _, World.drewN_drewN _ _ _⟩ | exact ⟨rfl, _, Eq.trans (World.drewN_drewN _ _ _) (congrArg (World.drewN _) (Nat.add_assoc _ _ _))⟩))); try go_wp2_with (first | (go_at_call 30; (with_reducible refine (lockageref03_Fits.calls a0 true _ A4.out).mono ?_); rintro e w' ⟨rfl, ⟨nd, rfl⟩⟩; (try first | exact ⟨rfl, _, World.drewN_drewN _ _ _⟩ | exact ⟨rfl, _, Eq.trans (World.drewN_drewN _ _ _) (congrArg (World.drewN _) (Nat.add_assoc _ _ _))⟩))))
        go_meet
        case rel => exact ⟨_, (false), (by first | rfl | (simp; done) | (simp [*]; done)), H', ⟨by first | omega | exact Nat.le_refl _⟩, by repeat (first | exact Drawn0.refl _ | apply Drawn0.step)⟩
      · rw [if_neg c6] at H
        have c6b0 : (a1 == 10) = false := beq_eq_false_iff_ne.mpr c6
        have c6b1 : (a1 != 10) = true := bne_iff_ne.mpr c6
        (first | rw [c6b0] | (simp only [i64_w, i32_w]; rw [c6b0]) | skip)
        have H' := Aside0.mk H
        clear H
        go_wp2_with (first | (go_at_call 30; (with_reducible refine (lockageref03_Fits.calls a0 true _ A4.out).mono ?_); rintro e w' ⟨rfl, ⟨nd, rfl⟩⟩; (try first | exact ⟨rfl, _, World.drewN_drewN _ _ _⟩ | exact ⟨rfl, _, Eq.trans (World.drewN_drewN _ _ _) (congrArg (World.drewN _) (Nat.add_assoc _ _ _))⟩)))
        repeat (go_quiet (first | (go_at_call 30; (with_reducible refine (lockageref03_Fits.calls a0 true _ A4.out).mono ?_); rintro e w' ⟨rfl, ⟨nd, rfl⟩⟩; (try first | exact ⟨rfl, _, World.drewN_drewN _ _ _⟩ | exact ⟨rfl, _, Eq.trans (World.drewN_drewN _ _ _) (congrArg (World.drewN _) (Nat.add_assoc _ _ _))⟩))); try go_wp2_with (first | (go_at_call 30; (with_reducible refine (lockageref03_Fits.calls a0 true _ A4.out).mono ?_); rintro e w' ⟨rfl, ⟨nd, rfl⟩⟩; (try first | exact ⟨rfl, _, World.drewN_drewN _ _ _⟩ | exact ⟨rfl, _, Eq.trans (World.drewN_drewN _ _ _) (congrArg (World.drewN _) (Nat.add_assoc _ _ _))⟩))))
        go_meet
        case rel => exact ⟨_, ((a1 != 16)), (by first | rfl | (simp; done) | (simp [*]; done)), H', ⟨by first | omega | exact Nat.le_refl _⟩, by repeat (first | exact Drawn0.refl _ | apply Drawn0.step)⟩
    · replace c5 := Bool.eq_false_iff.mpr c5
      subst c5
      have H1 : (lockageref03_Text.j0 k a0 a1 true) = some r := by rw [if_neg (show ¬ (false = true) by decide)] at H; exact H
      clear H
      have H := H1
      clear H1
      have H' := Aside0.mk H
      clear H
      go_wp2_with (first | (go_at_call 30; (with_reducible refine (lockageref03_Fits.calls a0 false _ A4.out).mono ?_); rintro e w' ⟨rfl, ⟨nd, rfl⟩⟩; (try first | exact ⟨rfl, _, World.drewN_drewN _ _ _⟩ | exact ⟨rfl, _, Eq.trans (World.drewN_drewN _ _ _) (congrArg (World.drewN _) (Nat.add_assoc _ _ _))⟩)))
      repeat (go_quiet (first | (go_at_call 30; (with_reducible refine (lockageref03_Fits.calls a0 false _ A4.out).mono ?_); rintro e w' ⟨rfl, ⟨nd, rfl⟩⟩; (try first | exact ⟨rfl, _, World.drewN_drewN _ _ _⟩ | exact ⟨rfl, _, Eq.trans (World.drewN_drewN _ _ _) (congrArg (World.drewN _) (Nat.add_assoc _ _ _))⟩))); try go_wp2_with (first | (go_at_call 30; (with_reducible refine (lockageref03_Fits.calls a0 false _ A4.out).mono ?_); rintro e w' ⟨rfl, ⟨nd, rfl⟩⟩; (try first | exact ⟨rfl, _, World.drewN_drewN _ _ _⟩ | exact ⟨rfl, _, Eq.trans (World.drewN_drewN _ _ _) (congrArg (World.drewN _) (Nat.add_assoc _ _ _))⟩))))
      go_meet
      case rel => exact ⟨_, (true), (by first | rfl | (simp; done) | (simp [*]; done)), H', ⟨by first | omega | exact Nat.le_refl _⟩, by repeat (first | exact Drawn0.refl _ | apply Drawn0.step)⟩
  case rest =>
    clear HC3
    try clear c2
    try clear p2
    try clear c5
    try clear c6
    try clear c6b0
    try clear c6b1
    obtain ⟨kq, x16_2, rfl, HA, HJ2, ⟨mc2, rfl⟩⟩ := hcut
    cases kq with
    | zero => exact absurd HA.out (by simp [lockageref03_Text.j0])
    | succ kj2 =>
      have H := HA.out
      clear HA
      simp only [lockageref03_Text.j0] at H
      by_cases c7 : x16_2 = true
      · subst c7
        have H1 : (some (⟨#[]⟩ : ByteArray)) = some r := by rw [if_pos rfl] at H; exact H
        clear H
        have H := H1
        clear H1
        obtain rfl := Option.some.inj H
        go_wp2
        repeat (go_quiet (fail); try go_wp2)
        go_ret
        exact ⟨by first | rfl | (simp; done) | (simp [*]; done), by repeat (first | exact Drawn0.refl _ | apply Drawn0.step)⟩
      · replace c7 := Bool.eq_false_iff.mpr c7
        subst c7
        have H1 : (if a1 = 0 then (none) else (if 0 ≤ (Int.tmod a0 a1) then (if (Int.tmod a0 a1) ≤ (wrap64 ((Int.tmod a0 a1) + 1)) then (if (wrap64 ((Int.tmod a0 a1) + 1)) ≤ 16 then (if a0 < a1 then (some ((⟨#[48, 49, 50, 51, 52, 53, 54, 55, 56, 57, 97, 98, 99, 100, 101, 102]⟩ : ByteArray).extract ((Int.tmod a0 a1) : Int).toNat ((wrap64 ((Int.tmod a0 a1) + 1)) : Int).toNat)) else ((lockageref03_Text.f kj2 (wrap64 (Int.tdiv a0 a1)) a1).bind fun t217 => (if t217.size + ((⟨#[48, 49, 50, 51, 52, 53, 54, 55, 56, 57, 97, 98, 99, 100, 101, 102]⟩ : ByteArray).extract ((Int.tmod a0 a1) : Int).toNat ((wrap64 ((Int.tmod a0 a1) + 1)) : Int).toNat).size ≤ 9223372036854775807 then (some (t217 ++ ((⟨#[48, 49, 50, 51, 52, 53, 54, 55, 56, 57, 97, 98, 99, 100, 101, 102]⟩ : ByteArray).extract ((Int.tmod a0 a1) : Int).toNat ((wrap64 ((Int.tmod a0 a1) + 1)) : Int).toNat))) else (none)))) else (none)) else (none)) else (none))) = some r := by rw [if_neg (show ¬ (false = true) by decide)] at H; exact H
        clear H
        have H := H1
        clear H1
        by_cases c8 : a1 = 0
        · rw [if_pos c8] at H
          exact absurd H (by simp)
        · rw [if_neg c8] at H
          have c8b0 : (a1 == 0) = false := beq_eq_false_iff_ne.mpr c8
          have c8b1 : (a1 != 0) = true := bne_iff_ne.mpr c8
          obtain ⟨ji9, hji9⟩ : ∃ j_ : Int, (Int.tmod a0 a1) = j_ := ⟨_, rfl⟩
          replace H : (if 0 ≤ (ji9) then (if (ji9) ≤ (wrap64 ((ji9) + 1)) then (if (wrap64 ((ji9) + 1)) ≤ 16 then (if a0 < a1 then (some ((⟨#[48, 49, 50, 51, 52, 53, 54, 55, 56, 57, 97, 98, 99, 100, 101, 102]⟩ : ByteArray).extract ((ji9) : Int).toNat ((wrap64 ((ji9) + 1)) : Int).toNat)) else ((lockageref03_Text.f kj2 (wrap64 (Int.tdiv a0 a1)) a1).bind fun t217 => (if t217.size + ((⟨#[48, 49, 50, 51, 52, 53, 54, 55, 56, 57, 97, 98, 99, 100, 101, 102]⟩ : ByteArray).extract ((ji9) : Int).toNat ((wrap64 ((ji9) + 1)) : Int).toNat).size ≤ 9223372036854775807 then (some (t217 ++ ((⟨#[48, 49, 50, 51, 52, 53, 54, 55, 56, 57, 97, 98, 99, 100, 101, 102]⟩ : ByteArray).extract ((ji9) : Int).toNat ((wrap64 ((ji9) + 1)) : Int).toNat))) else (none)))) else (none)) else (none)) else (none)) = some r := by first | (rw [hji9] at H; exact H) | (simp only [hji9] at H ⊢; exact H)
          by_cases c10 : 0 ≤ (ji9)
          · rw [if_pos c10] at H
            have c10b0 := eq_true c10
            have c10b1 : decide (0 ≤ (ji9)) = true := decide_eq_true c10
            clear c10
            by_cases c11 : (ji9) ≤ (wrap64 ((ji9) + 1))
            · rw [if_pos c11] at H
              have c11b0 := eq_true c11
              have c11b1 : decide ((ji9) ≤ (wrap64 ((ji9) + 1))) = true := decide_eq_true c11
              by_cases c12 : (wrap64 ((ji9) + 1)) ≤ 16
              · rw [if_pos c12] at H
                have c12b0 := eq_true c12
                have c12b1 : decide ((wrap64 ((ji9) + 1)) ≤ 16) = true := decide_eq_true c12
                by_cases c13 : a0 < a1
                · rw [if_pos c13] at H
                  have c13b0 : decide (a0 < a1) = true := decide_eq_true c13
                  clear c13
                  obtain rfl := Option.some.inj H
                  go_wp2
                  repeat (go_quiet (fail); try go_wp2)
                  go_ret
                  exact ⟨by first | rfl | (simp; done) | (simp only [← hji9] <;> (first | rfl | simp)) | (simp [*]; done), by repeat (first | exact Drawn0.refl _ | apply Drawn0.step)⟩
                · rw [if_neg c13] at H
                  have c13b0 : decide (a0 < a1) = false := decide_eq_false c13
                  clear c13
                  replace H := Option.bind_eq_some_iff.mp H
                  obtain ⟨t217, A140, H⟩ := H
                  replace H : (if t217.size + ((⟨#[48, 49, 50, 51, 52, 53, 54, 55, 56, 57, 97, 98, 99, 100, 101, 102]⟩ : ByteArray).extract ((ji9) : Int).toNat ((wrap64 ((ji9) + 1)) : Int).toNat).size ≤ 9223372036854775807 then (some (t217 ++ ((⟨#[48, 49, 50, 51, 52, 53, 54, 55, 56, 57, 97, 98, 99, 100, 101, 102]⟩ : ByteArray).extract ((ji9) : Int).toNat ((wrap64 ((ji9) + 1)) : Int).toNat))) else (none)) = some r := H
                  have A14 := Aside0.mk A140
                  clear A140
                  by_cases c15 : t217.size + ((⟨#[48, 49, 50, 51, 52, 53, 54, 55, 56, 57, 97, 98, 99, 100, 101, 102]⟩ : ByteArray).extract ((ji9) : Int).toNat ((wrap64 ((ji9) + 1)) : Int).toNat).size ≤ 9223372036854775807
                  · rw [if_pos c15] at H
                    have c15b0 := eq_true c15
                    have c15b1 : decide (t217.size + ((⟨#[48, 49, 50, 51, 52, 53, 54, 55, 56, 57, 97, 98, 99, 100, 101, 102]⟩ : ByteArray).extract ((ji9) : Int).toNat ((wrap64 ((ji9) + 1)) : Int).toNat).size ≤ 9223372036854775807) = true := decide_eq_true c15
                    try have c15b2 : (9223372036854775807 < t217.size + ((⟨#[48, 49, 50, 51, 52, 53, 54, 55, 56, 57, 97, 98, 99, 100, 101, 102]⟩ : ByteArray).extract ((ji9) : Int).toNat ((wrap64 ((ji9) + 1)) : Int).toNat).size) = False := eq_false (Nat.not_lt.2 c15)
                    obtain rfl := Option.some.inj H
                    go_wp2_with (first | (go_at_call 22; (with_reducible refine (ih kj2 (by have := HJ2.out; omega) (wrap64 (Int.tdiv a0 a1)) a1 t217 _ A14.out).mono ?_); rintro e w' ⟨rfl, ⟨nd, rfl⟩⟩; (try first | exact ⟨rfl, _, World.drewN_drewN _ _ _⟩ | exact ⟨rfl, _, Eq.trans (World.drewN_drewN _ _ _) (congrArg (World.drewN _) (Nat.add_assoc _ _ _))⟩)))
                    repeat (go_quiet (first | (go_at_call 22; (with_reducible refine (ih kj2 (by have := HJ2.out; omega) (wrap64 (Int.tdiv a0 a1)) a1 t217 _ A14.out).mono ?_); rintro e w' ⟨rfl, ⟨nd, rfl⟩⟩; (try first | exact ⟨rfl, _, World.drewN_drewN _ _ _⟩ | exact ⟨rfl, _, Eq.trans (World.drewN_drewN _ _ _) (congrArg (World.drewN _) (Nat.add_assoc _ _ _))⟩))); try go_wp2_with (first | (go_at_call 22; (with_reducible refine (ih kj2 (by have := HJ2.out; omega) (wrap64 (Int.tdiv a0 a1)) a1 t217 _ A14.out).mono ?_); rintro e w' ⟨rfl, ⟨nd, rfl⟩⟩; (try first | exact ⟨rfl, _, World.drewN_drewN _ _ _⟩ | exact ⟨rfl, _, Eq.trans (World.drewN_drewN _ _ _) (congrArg (World.drewN _) (Nat.add_assoc _ _ _))⟩))))
                    go_ret
                    exact ⟨by first | rfl | (simp; done) | (simp only [← hji9] <;> (first | rfl | simp)) | (simp [*]; done), by repeat (first | exact Drawn0.refl _ | apply Drawn0.step)⟩
                  · rw [if_neg c15] at H
                    exact absurd H (by simp)
              · rw [if_neg c12] at H
                exact absurd H (by simp)
            · rw [if_neg c11] at H
              exact absurd H (by simp)
          · rw [if_neg c10] at H
            exact absurd H (by simp)

/-! ### lockageref08_Encode: function 14 -/
mutual
def lockageref08_Encode.j0 : Nat → ByteArray → Int → Bool → Option (ByteArray × Int)
  | 0, _, _, _ => none
  | k + 1, x0, x1, x19 => if x19 = true then (some ((⟨#[]⟩ : ByteArray), 1)) else (lockageref08_Encode.l0 k x0 x1 (⟨#[]⟩ : ByteArray) 0)
def lockageref08_Encode.l0 : Nat → ByteArray → Int → ByteArray → Int → Option (ByteArray × Int)
  | 0, _, _, _, _ => none
  | k + 1, x0, x1, x6, x7 => if x7 < (x0.size : Int) then ((lockageref03_Text.f k (mn x1 (wrap64 ((x0.size : Int) - x7))) 16).bind fun t218 => (if x6.size + t218.size ≤ 9223372036854775807 then (if (x6 ++ t218).size + 2 ≤ 9223372036854775807 then (if 0 ≤ x7 then (if x7 ≤ (wrap64 (x7 + (mn x1 (wrap64 ((x0.size : Int) - x7))))) then (if (wrap64 (x7 + (mn x1 (wrap64 ((x0.size : Int) - x7))))) ≤ (x0.size : Int) then (if ((x6 ++ t218) ++ (⟨#[13, 10]⟩ : ByteArray)).size + (x0.extract (x7 : Int).toNat ((wrap64 (x7 + (mn x1 (wrap64 ((x0.size : Int) - x7))))) : Int).toNat).size ≤ 9223372036854775807 then (if (((x6 ++ t218) ++ (⟨#[13, 10]⟩ : ByteArray)) ++ (x0.extract (x7 : Int).toNat ((wrap64 (x7 + (mn x1 (wrap64 ((x0.size : Int) - x7))))) : Int).toNat)).size + 2 ≤ 9223372036854775807 then (lockageref08_Encode.l0 k x0 x1 ((((x6 ++ t218) ++ (⟨#[13, 10]⟩ : ByteArray)) ++ (x0.extract (x7 : Int).toNat ((wrap64 (x7 + (mn x1 (wrap64 ((x0.size : Int) - x7))))) : Int).toNat)) ++ (⟨#[13, 10]⟩ : ByteArray)) (wrap64 (x7 + x1))) else (none)) else (none)) else (none)) else (none)) else (none)) else (none)) else (none))) else (if x6.size + 5 ≤ 9223372036854775807 then (some (x6 ++ (⟨#[48, 13, 10, 13, 10]⟩ : ByteArray), 0)) else (none))
end
def lockageref08_Encode.f (k : Nat) (a0 : ByteArray) (a1 : Int) : Option (ByteArray × Int) := if a1 < 1 then (lockageref08_Encode.j0 k a0 a1 true) else (if a1 > 4000 then (lockageref08_Encode.j0 k a0 a1 true) else (lockageref08_Encode.j0 k a0 a1 (decide ((a0.size : Int) > 4000))))
theorem lockageref08_Encode.mono_l : ∀ k, (∀ y0 y1 y2, LeO (lockageref08_Encode.j0 k y0 y1 y2) (lockageref08_Encode.j0 (k + 1) y0 y1 y2)) ∧ (∀ y0 y1 y2 y3, LeO (lockageref08_Encode.l0 k y0 y1 y2 y3) (lockageref08_Encode.l0 (k + 1) y0 y1 y2 y3))
  | 0 => ⟨fun _ _ _ r h => by simp [lockageref08_Encode.j0] at h, fun _ _ _ _ r h => by simp [lockageref08_Encode.l0] at h⟩
  | k + 1 => by
    obtain ⟨ih0, ih1⟩ := lockageref08_Encode.mono_l k
    refine ⟨?_, ?_⟩
    · intro y0 y1 y2
      unfold lockageref08_Encode.j0
      repeat' first
      | (with_reducible exact ih0 _ _ _)
      | (with_reducible exact ih1 _ _ _ _)
      | (with_reducible exact lockageref03_Text.mono _ _ _)
      | (with_reducible exact LeO.refl _)
      | (with_reducible exact LeO.none _)
      | (with_reducible refine LeO.ite ?_ ?_)
      | (with_reducible refine LeO.bind ?_ (fun _ => ?_))
      | exact ih0 _ _ _
      | exact ih1 _ _ _ _
      | exact lockageref03_Text.mono _ _ _
      | exact LeO.none _
      | refine LeO.ite ?_ ?_
      | refine LeO.bind ?_ (fun _ => ?_)
    · intro y0 y1 y2 y3
      unfold lockageref08_Encode.l0
      repeat' first
      | (with_reducible exact ih0 _ _ _)
      | (with_reducible exact ih1 _ _ _ _)
      | (with_reducible exact lockageref03_Text.mono _ _ _)
      | (with_reducible exact LeO.refl _)
      | (with_reducible exact LeO.none _)
      | (with_reducible refine LeO.ite ?_ ?_)
      | (with_reducible refine LeO.bind ?_ (fun _ => ?_))
      | exact ih0 _ _ _
      | exact ih1 _ _ _ _
      | exact lockageref03_Text.mono _ _ _
      | exact LeO.none _
      | refine LeO.ite ?_ ?_
      | refine LeO.bind ?_ (fun _ => ?_)
theorem lockageref08_Encode.mono : ∀ a0 a1 k, LeO (lockageref08_Encode.f k a0 a1) (lockageref08_Encode.f (k + 1) a0 a1) := by
  intro a0 a1 k
  obtain ⟨ih0, ih1⟩ := lockageref08_Encode.mono_l k
  unfold lockageref08_Encode.f
  repeat' first
      | (with_reducible exact ih0 _ _ _)
      | (with_reducible exact ih1 _ _ _ _)
      | (with_reducible exact lockageref03_Text.mono _ _ _)
      | (with_reducible exact LeO.refl _)
      | (with_reducible exact LeO.none _)
      | (with_reducible refine LeO.ite ?_ ?_)
      | (with_reducible refine LeO.bind ?_ (fun _ => ?_))
      | exact ih0 _ _ _
      | exact ih1 _ _ _ _
      | exact lockageref03_Text.mono _ _ _
      | exact LeO.none _
      | refine LeO.ite ?_ ?_
      | refine LeO.bind ?_ (fun _ => ?_)
set_option maxHeartbeats 8000000 in
set_option maxRecDepth 100000 in
theorem lockageref08_Encode.calls (k : Nat) (a0 : ByteArray) (a1 : Int) (r1 : ByteArray) (r2 : Int) (w : World) (h : lockageref08_Encode.f k a0 a1 = some (r1, r2)) :
    Calls Tryd.prog 14 #[.string a0, .int .i64 a1] w fun e w' => e = .returned (.tuple #[.string r1, .int .i64 r2]) ∧ Below w.heap.size w w' := by
  have HB := Aside0.mk (Below.refl w.heap.size w)
  have H : (if a1 < 1 then (lockageref08_Encode.j0 k a0 a1 true) else (if a1 > 4000 then (lockageref08_Encode.j0 k a0 a1 true) else (lockageref08_Encode.j0 k a0 a1 (decide ((a0.size : Int) > 4000))))) = some (r1, r2) := h
  clear h
  have HC3 := Aside0.mk H
  clear H
  go_enter Tryd.func14, Tryd.ntmps14
  go_upto_region 1 with (fail)
  repeat (go_quiet (fail); go_upto_region 1 with (fail))
  go_cut [19] (fun v19 wc => ∃ (kq : Nat) (x19_2 : Bool), v19 = .bool x19_2 ∧ Aside0 (lockageref08_Encode.j0 kq a0 a1 x19_2 = some (r1, r2)) ∧ Aside0 (kq ≤ k) ∧ Aside0 (Below w.heap.size w wc))
  case first =>
    have H := HC3.out
    clear HC3
    by_cases c4 : a1 < 1
    · rw [if_pos c4] at H
      have c4b0 : decide (a1 < 1) = true := decide_eq_true c4
      clear c4
      (first | rw [c4b0] | (simp only [i64_w, i32_w]; rw [c4b0]) | skip)
      have H' := Aside0.mk H
      clear H
      go_wp2
      repeat (go_quiet (fail); try go_wp2)
      go_meet
      case rel => exact ⟨_, (true), (by first | rfl | (simp; done) | (simp [*]; done)), H', ⟨by first | omega | exact Nat.le_refl _⟩, ⟨by repeat (first | (with_reducible first | exact HB.out | apply below_alloc | apply pw_below_drewN | apply below_drew1) | exact HB.out)⟩⟩
    · rw [if_neg c4] at H
      have c4b0 : decide (a1 < 1) = false := decide_eq_false c4
      clear c4
      (first | rw [c4b0] | (simp only [i64_w, i32_w]; rw [c4b0]) | skip)
      by_cases c5 : a1 > 4000
      · rw [if_pos c5] at H
        have c5b0 : decide (4000 < a1) = true := decide_eq_true c5
        clear c5
        have H' := Aside0.mk H
        clear H
        go_wp2
        repeat (go_quiet (fail); try go_wp2)
        go_meet
        case rel => exact ⟨_, (true), (by first | rfl | (simp; done) | (simp [*]; done)), H', ⟨by first | omega | exact Nat.le_refl _⟩, ⟨by repeat (first | (with_reducible first | exact HB.out | apply below_alloc | apply pw_below_drewN | apply below_drew1) | exact HB.out)⟩⟩
      · rw [if_neg c5] at H
        have c5b0 : decide (4000 < a1) = false := decide_eq_false c5
        clear c5
        have H' := Aside0.mk H
        clear H
        go_wp2
        repeat (go_quiet (fail); try go_wp2)
        go_meet
        case rel => exact ⟨_, (decide ((a0.size : Int) > 4000)), (by first | rfl | (simp; done) | (simp [*]; done)), H', ⟨by first | omega | exact Nat.le_refl _⟩, ⟨by repeat (first | (with_reducible first | exact HB.out | apply below_alloc | apply pw_below_drewN | apply below_drew1) | exact HB.out)⟩⟩
  case rest =>
    clear HC3
    try clear c1
    try clear p2
    try clear c4
    try clear c4b0
    try clear c5
    try clear c5b0
    obtain ⟨kq, x19_2, rfl, HA, HJ2, HB⟩ := hcut
    cases kq with
    | zero => exact absurd HA.out (by simp [lockageref08_Encode.j0])
    | succ kj2 =>
      have H := HA.out
      clear HA
      simp only [lockageref08_Encode.j0] at H
      by_cases c6 : x19_2 = true
      · subst c6
        have H1 : (some ((⟨#[]⟩ : ByteArray), 1)) = some (r1, r2) := by rw [if_pos rfl] at H; exact H
        clear H
        have H := H1
        clear H1
        simp only [Option.some.injEq, Prod.mk.injEq] at H
        obtain ⟨rfl, rfl⟩ := H
        go_wp2
        repeat (go_quiet (fail); try go_wp2)
        go_ret2
        exact ⟨by first | rfl | (simp [errW_none, errW_some] <;> rfl) | (simp [*, errW_none, errW_some] <;> rfl), by repeat (first | (with_reducible first | exact HB.out | apply below_alloc | apply pw_below_drewN | apply below_drew1) | exact HB.out)⟩
      · replace c6 := Bool.eq_false_iff.mpr c6
        subst c6
        have H1 : (lockageref08_Encode.l0 kj2 a0 a1 (⟨#[]⟩ : ByteArray) 0) = some (r1, r2) := by rw [if_neg (show ¬ (false = true) by decide)] at H; exact H
        clear H
        have H := H1
        clear H1
        have H' := Aside0.mk H
        clear H
        go_wp2
        repeat (go_quiet (fail); try go_wp2)
        go_loopg [6, 7] kj2 (fun kq v6 v7 w' => ∃ (x6_2 : ByteArray) (x7_2 : Int), v6 = .string x6_2 ∧ v7 = .int .i64 x7_2 ∧ Aside0 (lockageref08_Encode.l0 kq a0 a1 x6_2 x7_2 = some (r1, r2)) ∧ Aside0 (kq ≤ kj2) ∧ Aside0 (Below w.heap.size w w'))
        case atStart => exact ⟨((⟨#[]⟩ : ByteArray)), (0), (by first | rfl | (simp; done) | (simp [*]; done)), (by first | rfl | (simp; done) | (simp [*]; done)), H', ⟨Nat.le_refl _⟩, ⟨by repeat (first | (with_reducible first | exact HB.out | apply below_alloc | apply pw_below_drewN | apply below_drew1) | exact HB.out)⟩⟩
        case round =>
          clear H'
          try clear c1
          try clear p2
          try clear c4
          try clear c4b0
          try clear c5
          try clear c5b0
          try clear c6
          try clear p2
          obtain ⟨x6_2, x7_2, rfl, rfl, HA, HK2, HB⟩ := hrel
          cases gk with
          | zero => exact absurd HA.out (by simp [lockageref08_Encode.l0])
          | succ k2 =>
            have H := HA.out
            clear HA
            simp only [lockageref08_Encode.l0] at H
            by_cases c7 : x7_2 < (a0.size : Int)
            · rw [if_pos c7] at H
              have c7b0 : decide (x7_2 < (a0.size : Int)) = true := decide_eq_true c7
              clear c7
              obtain ⟨ji8, hji8⟩ : ∃ j_ : Int, (mn a1 (wrap64 ((a0.size : Int) - x7_2))) = j_ := ⟨_, rfl⟩
              replace H : ((lockageref03_Text.f k2 (ji8) 16).bind fun t218 => (if x6_2.size + t218.size ≤ 9223372036854775807 then (if (x6_2 ++ t218).size + 2 ≤ 9223372036854775807 then (if 0 ≤ x7_2 then (if x7_2 ≤ (wrap64 (x7_2 + (ji8))) then (if (wrap64 (x7_2 + (ji8))) ≤ (a0.size : Int) then (if ((x6_2 ++ t218) ++ (⟨#[13, 10]⟩ : ByteArray)).size + (a0.extract (x7_2 : Int).toNat ((wrap64 (x7_2 + (ji8))) : Int).toNat).size ≤ 9223372036854775807 then (if (((x6_2 ++ t218) ++ (⟨#[13, 10]⟩ : ByteArray)) ++ (a0.extract (x7_2 : Int).toNat ((wrap64 (x7_2 + (ji8))) : Int).toNat)).size + 2 ≤ 9223372036854775807 then (lockageref08_Encode.l0 k2 a0 a1 ((((x6_2 ++ t218) ++ (⟨#[13, 10]⟩ : ByteArray)) ++ (a0.extract (x7_2 : Int).toNat ((wrap64 (x7_2 + (ji8))) : Int).toNat)) ++ (⟨#[13, 10]⟩ : ByteArray)) (wrap64 (x7_2 + a1))) else (none)) else (none)) else (none)) else (none)) else (none)) else (none)) else (none))) = some (r1, r2) := by first | (rw [hji8] at H; exact H) | (simp only [hji8] at H ⊢; exact H)
              have hji8_ : (if (wrap64 ((a0.size : Int) - x7_2)) < a1 then (wrap64 ((a0.size : Int) - x7_2)) else a1) = ji8 := hji8
              replace H := Option.bind_eq_some_iff.mp H
              obtain ⟨t218, A90, H⟩ := H
              replace H : (if x6_2.size + t218.size ≤ 9223372036854775807 then (if (x6_2 ++ t218).size + 2 ≤ 9223372036854775807 then (if 0 ≤ x7_2 then (if x7_2 ≤ (wrap64 (x7_2 + (ji8))) then (if (wrap64 (x7_2 + (ji8))) ≤ (a0.size : Int) then (if ((x6_2 ++ t218) ++ (⟨#[13, 10]⟩ : ByteArray)).size + (a0.extract (x7_2 : Int).toNat ((wrap64 (x7_2 + (ji8))) : Int).toNat).size ≤ 9223372036854775807 then (if (((x6_2 ++ t218) ++ (⟨#[13, 10]⟩ : ByteArray)) ++ (a0.extract (x7_2 : Int).toNat ((wrap64 (x7_2 + (ji8))) : Int).toNat)).size + 2 ≤ 9223372036854775807 then (lockageref08_Encode.l0 k2 a0 a1 ((((x6_2 ++ t218) ++ (⟨#[13, 10]⟩ : ByteArray)) ++ (a0.extract (x7_2 : Int).toNat ((wrap64 (x7_2 + (ji8))) : Int).toNat)) ++ (⟨#[13, 10]⟩ : ByteArray)) (wrap64 (x7_2 + a1))) else (none)) else (none)) else (none)) else (none)) else (none)) else (none)) else (none)) = some (r1, r2) := H
              have A9 := Aside0.mk A90
              clear A90
              by_cases c10 : x6_2.size + t218.size ≤ 9223372036854775807
              · rw [if_pos c10] at H
                have c10b0 := eq_true c10
                have c10b1 : decide (x6_2.size + t218.size ≤ 9223372036854775807) = true := decide_eq_true c10
                try have c10b2 : (9223372036854775807 < x6_2.size + t218.size) = False := eq_false (Nat.not_lt.2 c10)
                by_cases c11 : (x6_2 ++ t218).size + 2 ≤ 9223372036854775807
                · rw [if_pos c11] at H
                  have c11b0 := eq_true c11
                  have c11b1 : decide ((x6_2 ++ t218).size + 2 ≤ 9223372036854775807) = true := decide_eq_true c11
                  try have c11b2 : (9223372036854775807 < (x6_2 ++ t218).size + 2) = False := eq_false (Nat.not_lt.2 c11)
                  try have c11b3 : (9223372036854775807 < x6_2.size + t218.size + 2) = False := eq_false (Nat.not_lt.2 (by have z_ := c11; rw [ByteArray.size_append] at z_; exact z_))
                  by_cases c12 : 0 ≤ x7_2
                  · rw [if_pos c12] at H
                    have c12b0 := eq_true c12
                    have c12b1 : decide (0 ≤ x7_2) = true := decide_eq_true c12
                    clear c12
                    by_cases c13 : x7_2 ≤ (wrap64 (x7_2 + (ji8)))
                    · rw [if_pos c13] at H
                      have c13b0 := eq_true c13
                      have c13b1 : decide (x7_2 ≤ (wrap64 (x7_2 + (ji8)))) = true := decide_eq_true c13
                      by_cases c14 : (wrap64 (x7_2 + (ji8))) ≤ (a0.size : Int)
                      · rw [if_pos c14] at H
                        have c14b0 := eq_true c14
                        have c14b1 : decide ((wrap64 (x7_2 + (ji8))) ≤ (a0.size : Int)) = true := decide_eq_true c14
                        by_cases c15 : ((x6_2 ++ t218) ++ (⟨#[13, 10]⟩ : ByteArray)).size + (a0.extract (x7_2 : Int).toNat ((wrap64 (x7_2 + (ji8))) : Int).toNat).size ≤ 9223372036854775807
                        · rw [if_pos c15] at H
                          have c15b0 := eq_true c15
                          have c15b1 : decide (((x6_2 ++ t218) ++ (⟨#[13, 10]⟩ : ByteArray)).size + (a0.extract (x7_2 : Int).toNat ((wrap64 (x7_2 + (ji8))) : Int).toNat).size ≤ 9223372036854775807) = true := decide_eq_true c15
                          try have c15b2 : (9223372036854775807 < ((x6_2 ++ t218) ++ (⟨#[13, 10]⟩ : ByteArray)).size + (a0.extract (x7_2 : Int).toNat ((wrap64 (x7_2 + (ji8))) : Int).toNat).size) = False := eq_false (Nat.not_lt.2 c15)
                          try have c15b3 : (9223372036854775807 < x6_2.size + t218.size + 2 + (((wrap64 (x7_2 + (ji8)))).toNat - (x7_2).toNat)) = False := eq_false (Nat.not_lt.2 (by have z_ := c15; rw [ByteArray.size_append, ByteArray.size_append, ByteArray.size_extract, Nat.min_eq_left (Int.toNat_le.2 (by first | assumption | exact of_decide_eq_true (by assumption)))] at z_; exact z_))
                          by_cases c16 : (((x6_2 ++ t218) ++ (⟨#[13, 10]⟩ : ByteArray)) ++ (a0.extract (x7_2 : Int).toNat ((wrap64 (x7_2 + (ji8))) : Int).toNat)).size + 2 ≤ 9223372036854775807
                          · rw [if_pos c16] at H
                            have c16b0 := eq_true c16
                            have c16b1 : decide ((((x6_2 ++ t218) ++ (⟨#[13, 10]⟩ : ByteArray)) ++ (a0.extract (x7_2 : Int).toNat ((wrap64 (x7_2 + (ji8))) : Int).toNat)).size + 2 ≤ 9223372036854775807) = true := decide_eq_true c16
                            try have c16b2 : (9223372036854775807 < (((x6_2 ++ t218) ++ (⟨#[13, 10]⟩ : ByteArray)) ++ (a0.extract (x7_2 : Int).toNat ((wrap64 (x7_2 + (ji8))) : Int).toNat)).size + 2) = False := eq_false (Nat.not_lt.2 c16)
                            try have c16b3 : (9223372036854775807 < x6_2.size + t218.size + 2 + (((wrap64 (x7_2 + (ji8)))).toNat - (x7_2).toNat) + 2) = False := eq_false (Nat.not_lt.2 (by have z_ := c16; rw [ByteArray.size_append, ByteArray.size_append, ByteArray.size_append, ByteArray.size_extract, Nat.min_eq_left (Int.toNat_le.2 (by first | assumption | exact of_decide_eq_true (by assumption)))] at z_; exact z_))
                            have H' := Aside0.mk H
                            clear H
                            go_wp2_with (first | (go_at_call 22; (with_reducible refine (lockageref03_Text.calls k2 ji8 16 t218 _ A9.out).mono ?_); rintro e w' ⟨rfl, ⟨nd, rfl⟩⟩; (try first | exact ⟨rfl, _, World.drewN_drewN _ _ _⟩ | exact ⟨rfl, _, Eq.trans (World.drewN_drewN _ _ _) (congrArg (World.drewN _) (Nat.add_assoc _ _ _))⟩)))
                            repeat (go_quiet (first | (go_at_call 22; (with_reducible refine (lockageref03_Text.calls k2 ji8 16 t218 _ A9.out).mono ?_); rintro e w' ⟨rfl, ⟨nd, rfl⟩⟩; (try first | exact ⟨rfl, _, World.drewN_drewN _ _ _⟩ | exact ⟨rfl, _, Eq.trans (World.drewN_drewN _ _ _) (congrArg (World.drewN _) (Nat.add_assoc _ _ _))⟩))); try go_wp2_with (first | (go_at_call 22; (with_reducible refine (lockageref03_Text.calls k2 ji8 16 t218 _ A9.out).mono ?_); rintro e w' ⟨rfl, ⟨nd, rfl⟩⟩; (try first | exact ⟨rfl, _, World.drewN_drewN _ _ _⟩ | exact ⟨rfl, _, Eq.trans (World.drewN_drewN _ _ _) (congrArg (World.drewN _) (Nat.add_assoc _ _ _))⟩))))
                            go_roundg k2
                            case measure => have := HJ2.out; have := HK2.out; omega
                            case rel => exact ⟨((((x6_2 ++ t218) ++ (⟨#[13, 10]⟩ : ByteArray)) ++ (a0.extract (x7_2 : Int).toNat ((wrap64 (x7_2 + (ji8))) : Int).toNat)) ++ (⟨#[13, 10]⟩ : ByteArray)), (wrap64 (x7_2 + a1)), (by first | rfl | (simp; done) | (simp only [← hji8] <;> (first | rfl | simp)) | (simp [*]; done)), (by first | rfl | (simp; done) | (simp [*]; done)), H', ⟨by have := HJ2.out; have := HK2.out; omega⟩, ⟨by repeat (first | (with_reducible first | exact HB.out | apply below_alloc | apply pw_below_drewN | apply below_drew1) | exact HB.out)⟩⟩
                          · rw [if_neg c16] at H
                            exact absurd H (by simp)
                        · rw [if_neg c15] at H
                          exact absurd H (by simp)
                      · rw [if_neg c14] at H
                        exact absurd H (by simp)
                    · rw [if_neg c13] at H
                      exact absurd H (by simp)
                  · rw [if_neg c12] at H
                    exact absurd H (by simp)
                · rw [if_neg c11] at H
                  exact absurd H (by simp)
              · rw [if_neg c10] at H
                exact absurd H (by simp)
            · rw [if_neg c7] at H
              have c7b0 : decide (x7_2 < (a0.size : Int)) = false := decide_eq_false c7
              clear c7
              by_cases c17 : x6_2.size + 5 ≤ 9223372036854775807
              · rw [if_pos c17] at H
                have c17b0 := eq_true c17
                have c17b1 : decide (x6_2.size + 5 ≤ 9223372036854775807) = true := decide_eq_true c17
                try have c17b2 : (9223372036854775807 < x6_2.size + 5) = False := eq_false (Nat.not_lt.2 c17)
                simp only [Option.some.injEq, Prod.mk.injEq] at H
                obtain ⟨rfl, rfl⟩ := H
                go_wp2
                repeat (go_quiet (fail); try go_wp2)
                go_ret2
                exact ⟨by first | rfl | (simp [errW_none, errW_some] <;> rfl) | (simp [*, errW_none, errW_some] <;> rfl), by repeat (first | (with_reducible first | exact HB.out | apply below_alloc | apply pw_below_drewN | apply below_drew1) | exact HB.out)⟩
              · rw [if_neg c17] at H
                exact absurd H (by simp)


end Go.Proofs.YthemlbefkdmegaaDoor.P
