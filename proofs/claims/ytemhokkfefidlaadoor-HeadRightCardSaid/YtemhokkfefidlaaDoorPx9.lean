/- Printed by a program of the session out of the translation: plain Lean functions, each with the contract that the Go function computes it. -/
import Derived.Test.YtemhokkfefidlaaDoorPx0
import Derived.Test.YtemhokkfefidlaaDoorPx7
import Derived.Test.YtemhokkfefidlaaDoorPx8
import Derived.Test.YtemhokkfefidlaaDoorHG
import Derived.Test.YtemhokkfefidlaaDoorHZJ
import Derived.Test.YtemhokkfefidlaaDoorHZB
namespace Go.Proofs.YtemhokkfefidlaaDoor.P
open Go.RowKit Go.Proofs.YtemhokkfefidlaaDoorW.PrintWords Go.Proofs.YtemhokkfefidlaaDoorW.PrintLast Go.Proofs.YtemhokkfefidlaaDoorW.PrintMore
attribute [local go_sem] max2_int min2_int max_two min_two max_three min_three max_four min_four   -- for this text's walks alone
set_option linter.unusedVariables false
set_option linter.unusedSimpArgs false

/-! ### lockagelaw06_HeadRight: function 4 -/
mutual
def lockagelaw06_HeadRight.j0 : Nat → ByteArray → List Int → Bool → Bool → Bool → Option (Bool)
  | 0, _, _, _, _, _ => none
  | k + 1, x0, x1, x3, x9, x24 => if x24 = true then ((some (([(⟨#[71, 69, 84, 32, 47, 32, 72, 84, 84, 80, 47, 49, 46, 49, 13, 10]⟩ : ByteArray), (⟨#[72, 84, 84, 80, 47, 49, 46, 49, 32, 50, 48, 48, 32, 79, 75, 13, 10]⟩ : ByteArray)] : List ByteArray) : List ByteArray)).bind fun y284 => (if 0 ≤ ((x1.length : Int) % 2) then (if ((x1.length : Int) % 2) < (y284.length : Int) then ((lockagelaw06_Pieces.f k x1).bind fun t288 => (if (rdOf ByteArray.empty y284 ((x1.length : Int) % 2)).size + t288.size ≤ 9223372036854775807 then (lockagelaw06_HeadRight.j1 k ((rdOf ByteArray.empty y284 ((x1.length : Int) % 2)) ++ t288) x3 x9) else (none))) else (none)) else (none))) else (lockagelaw06_HeadRight.j1 k x0 x3 x9)
def lockagelaw06_HeadRight.j1 : Nat → ByteArray → Bool → Bool → Option (Bool)
  | 0, _, _, _ => none
  | k + 1, x0, x3, x9 => (head_Parse.f k x0 x3).bind fun bt289 => (if bt289.2.2.2.2.2.2 = 0 then ((head_Print.f k bt289.1 bt289.2.1 bt289.2.2.1 bt289.2.2.2.1 bt289.2.2.2.2.1 bt289.2.2.2.2.2.1 x3).bind fun bt300 => ((head_Right.f k bt289.1 bt289.2.1 bt289.2.2.1 bt289.2.2.2.1 bt289.2.2.2.2.1 bt289.2.2.2.2.2.1 x3).bind fun t302 => (if t302 = true then (if bt300.2 = 0 then (lockagelaw06_HeadRight.j2 k x3 x9 bt300.1 (decide ((bt300.1.size : Int) < 4)) bt289.1 bt289.2.1 bt289.2.2.1 bt289.2.2.2.1 bt289.2.2.2.2.1 bt289.2.2.2.2.2.1) else (lockagelaw06_HeadRight.j2 k x3 x9 bt300.1 true bt289.1 bt289.2.1 bt289.2.2.1 bt289.2.2.2.1 bt289.2.2.2.2.1 bt289.2.2.2.2.2.1)) else (lockagelaw06_HeadRight.j2 k x3 x9 bt300.1 true bt289.1 bt289.2.1 bt289.2.2.1 bt289.2.2.2.1 bt289.2.2.2.2.1 bt289.2.2.2.2.2.1)))) else (if x9 = true then ((lockageref06_Same.f k bt289.1 bt289.2.1 bt289.2.2.1 bt289.2.2.2.1 bt289.2.2.2.2.1 bt289.2.2.2.2.2.1 (⟨#[]⟩ : ByteArray) (⟨#[]⟩ : ByteArray) 0 (⟨#[]⟩ : ByteArray) 0 ([] : List (S46))).bind fun t299 => (some t299)) else (none)))
def lockagelaw06_HeadRight.j2 : Nat → Bool → Bool → ByteArray → Bool → ByteArray → ByteArray → Int → ByteArray → Int → List (S46) → Option (Bool)
  | 0, _, _, _, _, _, _, _, _, _, _ => none
  | k + 1, x3, x9, x12, x66, x299000, x299001, x299002, x299003, x299004, x299005 => if x66 = true then (none) else (if 0 ≤ (wrap64 ((x12.size : Int) - 4)) then (if (wrap64 ((x12.size : Int) - 4)) ≤ (x12.size : Int) then ((head_Parse.f k (x12.extract 0 ((wrap64 ((x12.size : Int) - 4)) : Int).toNat) x3).bind fun bt303 => (if x9 = true then (if bt303.2.2.2.2.2.2 = 0 then ((lockageref06_Same.f k bt303.1 bt303.2.1 bt303.2.2.1 bt303.2.2.2.1 bt303.2.2.2.2.1 bt303.2.2.2.2.2.1 x299000 x299001 x299002 x299003 x299004 x299005).bind fun t313 => (some t313)) else (none)) else (none))) else (none)) else (none))
end
def lockagelaw06_HeadRight.f (k : Nat) (a0 : ByteArray) (l1 : List Int) (a2 : Bool) (a3 : Bool) : Option (Bool) := (lockagelaw06_awake.f k).bind fun t283 => (if t283 = true then (if a2 = true then (lockagelaw06_HeadRight.j0 k a0 l1 a3 t283 true) else (lockagelaw06_HeadRight.j0 k a0 l1 a3 t283 (decide ((a0.size : Int) > 400)))) else (none))
theorem lockagelaw06_HeadRight.mono_l : ∀ k, (∀ y0 y1 y2 y3 y4, LeO (lockagelaw06_HeadRight.j0 k y0 y1 y2 y3 y4) (lockagelaw06_HeadRight.j0 (k + 1) y0 y1 y2 y3 y4)) ∧ (∀ y0 y1 y2, LeO (lockagelaw06_HeadRight.j1 k y0 y1 y2) (lockagelaw06_HeadRight.j1 (k + 1) y0 y1 y2)) ∧ (∀ y0 y1 y2 y3 y4 y5 y6 y7 y8 y9, LeO (lockagelaw06_HeadRight.j2 k y0 y1 y2 y3 y4 y5 y6 y7 y8 y9) (lockagelaw06_HeadRight.j2 (k + 1) y0 y1 y2 y3 y4 y5 y6 y7 y8 y9))
  | 0 => ⟨fun _ _ _ _ _ r h => by simp [lockagelaw06_HeadRight.j0] at h, fun _ _ _ r h => by simp [lockagelaw06_HeadRight.j1] at h, fun _ _ _ _ _ _ _ _ _ _ r h => by simp [lockagelaw06_HeadRight.j2] at h⟩
  | k + 1 => by
    obtain ⟨ih0, ih1, ih2⟩ := lockagelaw06_HeadRight.mono_l k
    refine ⟨?_, ?_, ?_⟩
    · intro y0 y1 y2 y3 y4
      unfold lockagelaw06_HeadRight.j0
      repeat' first
      | (with_reducible exact ih0 _ _ _ _ _)
      | (with_reducible exact ih1 _ _ _)
      | (with_reducible exact ih2 _ _ _ _ _ _ _ _ _ _)
      | (with_reducible exact head_Parse.mono _ _ _)
      | (with_reducible exact head_Print.mono _ _ _ _ _ _ _ _)
      | (with_reducible exact head_Right.mono _ _ _ _ _ _ _ _)
      | (with_reducible exact lockagelaw06_Pieces.mono _ _)
      | (with_reducible exact lockagelaw06_awake.mono _)
      | (with_reducible exact lockageref06_Same.mono _ _ _ _ _ _ _ _ _ _ _ _ _)
      | (with_reducible exact LeO.refl _)
      | (with_reducible exact LeO.none _)
      | (with_reducible refine LeO.ite ?_ ?_)
      | (with_reducible refine LeO.bind ?_ (fun _ => ?_))
      | exact ih0 _ _ _ _ _
      | exact ih1 _ _ _
      | exact ih2 _ _ _ _ _ _ _ _ _ _
      | exact head_Parse.mono _ _ _
      | exact head_Print.mono _ _ _ _ _ _ _ _
      | exact head_Right.mono _ _ _ _ _ _ _ _
      | exact lockagelaw06_Pieces.mono _ _
      | exact lockagelaw06_awake.mono _
      | exact lockageref06_Same.mono _ _ _ _ _ _ _ _ _ _ _ _ _
      | exact LeO.none _
      | refine LeO.ite ?_ ?_
      | refine LeO.bind ?_ (fun _ => ?_)
    · intro y0 y1 y2
      unfold lockagelaw06_HeadRight.j1
      repeat' first
      | (with_reducible exact ih0 _ _ _ _ _)
      | (with_reducible exact ih1 _ _ _)
      | (with_reducible exact ih2 _ _ _ _ _ _ _ _ _ _)
      | (with_reducible exact head_Parse.mono _ _ _)
      | (with_reducible exact head_Print.mono _ _ _ _ _ _ _ _)
      | (with_reducible exact head_Right.mono _ _ _ _ _ _ _ _)
      | (with_reducible exact lockagelaw06_Pieces.mono _ _)
      | (with_reducible exact lockagelaw06_awake.mono _)
      | (with_reducible exact lockageref06_Same.mono _ _ _ _ _ _ _ _ _ _ _ _ _)
      | (with_reducible exact LeO.refl _)
      | (with_reducible exact LeO.none _)
      | (with_reducible refine LeO.ite ?_ ?_)
      | (with_reducible refine LeO.bind ?_ (fun _ => ?_))
      | exact ih0 _ _ _ _ _
      | exact ih1 _ _ _
      | exact ih2 _ _ _ _ _ _ _ _ _ _
      | exact head_Parse.mono _ _ _
      | exact head_Print.mono _ _ _ _ _ _ _ _
      | exact head_Right.mono _ _ _ _ _ _ _ _
      | exact lockagelaw06_Pieces.mono _ _
      | exact lockagelaw06_awake.mono _
      | exact lockageref06_Same.mono _ _ _ _ _ _ _ _ _ _ _ _ _
      | exact LeO.none _
      | refine LeO.ite ?_ ?_
      | refine LeO.bind ?_ (fun _ => ?_)
    · intro y0 y1 y2 y3 y4 y5 y6 y7 y8 y9
      unfold lockagelaw06_HeadRight.j2
      repeat' first
      | (with_reducible exact ih0 _ _ _ _ _)
      | (with_reducible exact ih1 _ _ _)
      | (with_reducible exact ih2 _ _ _ _ _ _ _ _ _ _)
      | (with_reducible exact head_Parse.mono _ _ _)
      | (with_reducible exact head_Print.mono _ _ _ _ _ _ _ _)
      | (with_reducible exact head_Right.mono _ _ _ _ _ _ _ _)
      | (with_reducible exact lockagelaw06_Pieces.mono _ _)
      | (with_reducible exact lockagelaw06_awake.mono _)
      | (with_reducible exact lockageref06_Same.mono _ _ _ _ _ _ _ _ _ _ _ _ _)
      | (with_reducible exact LeO.refl _)
      | (with_reducible exact LeO.none _)
      | (with_reducible refine LeO.ite ?_ ?_)
      | (with_reducible refine LeO.bind ?_ (fun _ => ?_))
      | exact ih0 _ _ _ _ _
      | exact ih1 _ _ _
      | exact ih2 _ _ _ _ _ _ _ _ _ _
      | exact head_Parse.mono _ _ _
      | exact head_Print.mono _ _ _ _ _ _ _ _
      | exact head_Right.mono _ _ _ _ _ _ _ _
      | exact lockagelaw06_Pieces.mono _ _
      | exact lockagelaw06_awake.mono _
      | exact lockageref06_Same.mono _ _ _ _ _ _ _ _ _ _ _ _ _
      | exact LeO.none _
      | refine LeO.ite ?_ ?_
      | refine LeO.bind ?_ (fun _ => ?_)
theorem lockagelaw06_HeadRight.mono : ∀ a0 a1 a2 a3 k, LeO (lockagelaw06_HeadRight.f k a0 a1 a2 a3) (lockagelaw06_HeadRight.f (k + 1) a0 a1 a2 a3) := by
  intro a0 a1 a2 a3 k
  obtain ⟨ih0, ih1, ih2⟩ := lockagelaw06_HeadRight.mono_l k
  unfold lockagelaw06_HeadRight.f
  repeat' first
      | (with_reducible exact ih0 _ _ _ _ _)
      | (with_reducible exact ih1 _ _ _)
      | (with_reducible exact ih2 _ _ _ _ _ _ _ _ _ _)
      | (with_reducible exact head_Parse.mono _ _ _)
      | (with_reducible exact head_Print.mono _ _ _ _ _ _ _ _)
      | (with_reducible exact head_Right.mono _ _ _ _ _ _ _ _)
      | (with_reducible exact lockagelaw06_Pieces.mono _ _)
      | (with_reducible exact lockagelaw06_awake.mono _)
      | (with_reducible exact lockageref06_Same.mono _ _ _ _ _ _ _ _ _ _ _ _ _)
      | (with_reducible exact LeO.refl _)
      | (with_reducible exact LeO.none _)
      | (with_reducible refine LeO.ite ?_ ?_)
      | (with_reducible refine LeO.bind ?_ (fun _ => ?_))
      | exact ih0 _ _ _ _ _
      | exact ih1 _ _ _
      | exact ih2 _ _ _ _ _ _ _ _ _ _
      | exact head_Parse.mono _ _ _
      | exact head_Print.mono _ _ _ _ _ _ _ _
      | exact head_Right.mono _ _ _ _ _ _ _ _
      | exact lockagelaw06_Pieces.mono _ _
      | exact lockagelaw06_awake.mono _
      | exact lockageref06_Same.mono _ _ _ _ _ _ _ _ _ _ _ _ _
      | exact LeO.none _
      | refine LeO.ite ?_ ?_
      | refine LeO.bind ?_ (fun _ => ?_)
def lockagelaw06_HeadRight.T5 : Bool × List (List Nat × List Nat) := (true, [([], []), ([], []), ([1], [1]), ([2], [2]), ([0, 3], [0, 3]), ([4], [4]), ([], []), ([6], [6]), ([5, 7], [5, 7]), ([8, 7, 0, 1, 2, 3, 4, 5, 6, 7, 8], [8])])
def lockagelaw06_HeadRight.B5 : List Nat := [0, 0, 2, 6, 15, 31, 0, 64, 255, 511]
theorem lockagelaw06_HeadRight.tab5 : rtab .any (opsOf Tryd.f4 5) = lockagelaw06_HeadRight.T5 := by kernel_rfl
theorem lockagelaw06_HeadRight.bits5 : waitsOk lockagelaw06_HeadRight.T5.2 lockagelaw06_HeadRight.B5 = true := by kernel_rfl
set_option maxHeartbeats 8000000 in
set_option maxRecDepth 100000 in
theorem lockagelaw06_HeadRight.calls (k : Nat) (a0 : ByteArray) (A1 : Option Addr) (c1 : Nat) (l1 : List Int) (a2 : Bool) (a3 : Bool) (r : Bool) (w : World) (hr1 : Kd.C (Kd.int .u8) w A1 l1.length l1) (hc1 : l1.length ≤ c1) (hG_ : H.GlobOk w) (h : lockagelaw06_HeadRight.f k a0 l1 a2 a3 = some r) :
    Calls Tryd.prog 4 #[.string a0, .slice A1 l1.length c1, .bool a2, .bool a3] w fun e w' => e = .returned (.bool r) ∧ Below w.heap.size w w' := by
  have HG_ := Aside0.mk hG_
  clear hG_
  have hu26 := Tryd.underlying26
  have HR1 := Aside0.mk hr1
  have HC1 := Aside0.mk hc1
  clear hr1 hc1
  have HB := Aside0.mk (Below.refl w.heap.size w)
  have H : ((lockagelaw06_awake.f k).bind fun t283 => (if t283 = true then (if a2 = true then (lockagelaw06_HeadRight.j0 k a0 l1 a3 t283 true) else (lockagelaw06_HeadRight.j0 k a0 l1 a3 t283 (decide ((a0.size : Int) > 400)))) else (none))) = some r := h
  clear h
  replace H := Option.bind_eq_some_iff.mp H
  obtain ⟨t283, A50, H⟩ := H
  replace H : (if t283 = true then (if a2 = true then (lockagelaw06_HeadRight.j0 k a0 l1 a3 t283 true) else (lockagelaw06_HeadRight.j0 k a0 l1 a3 t283 (decide ((a0.size : Int) > 400)))) else (none)) = some r := H
  have A5 := Aside0.mk A50
  clear A50
  by_cases c6 : t283 = true
  · subst c6
    have H1 : (if a2 = true then (lockagelaw06_HeadRight.j0 k a0 l1 a3 true true) else (lockagelaw06_HeadRight.j0 k a0 l1 a3 true (decide ((a0.size : Int) > 400)))) = some r := by rw [if_pos rfl] at H; exact H
    clear H
    have H := H1
    clear H1
    have HC7 := Aside0.mk H
    clear H
    go_enter Tryd.func4, Tryd.ntmps4
    go_upto_region 4 with (first | ((with_reducible refine gate_callee (f := 5) rfl ?_); refine goesL_ (some 16) rfl rfl Tryd.func5 (by kernel_rfl) rfl #[] rfl (by (try simp only [List.map_toArray, List.map_cons, List.map_nil]); first | done | rfl | (simp only [List.length_drop, List.length_take]; rfl)) ?_; (with_reducible refine (lockagelaw06_awake.calls k  true _ ?side1 A5.out).mono ?_); (case side1 => exact glob_below HG_.out (by repeat (first | (with_reducible first | exact HB.out | apply below_alloc | apply pw_below_drewN | apply below_drew1) | exact HB.out))); rintro e w8 ⟨rfl, hb⟩; refine ⟨_, rfl, ?_⟩; have n0_ := Aside0.mk (below_step (by repeat (first | (with_reducible first | exact HB.out | apply below_alloc | apply pw_below_drewN | apply below_drew1) | exact HB.out)) hb); clear HB; have HB := n0_; clear n0_; (try clear hb); (try clear hb2); (try clear hk); (try clear hi)))
    (try simp only [Act.put, List.setIfInBounds_toArray, List.set_cons_zero, List.set_cons_succ])
    go_cut [24] (fun v24 wc => ∃ (kq : Nat) (x24_6 : Bool), v24 = .bool x24_6 ∧ Aside0 (lockagelaw06_HeadRight.j0 kq a0 l1 a3 true x24_6 = some r) ∧ Aside0 (kq ≤ k) ∧ Aside0 (Below w.heap.size w wc))
    case first =>
      have H := HC7.out
      clear HC7
      by_cases c9 : a2 = true
      · subst c9
        have H1 : (lockagelaw06_HeadRight.j0 k a0 l1 a3 true true) = some r := by rw [if_pos rfl] at H; exact H
        clear H
        have H := H1
        clear H1
        have H' := Aside0.mk H
        clear H
        go_wp2
        go_meet
        case rel => exact ⟨_, (true), (by first | rfl | (simp; done) | (simp [*]; done)), H', ⟨by first | omega | exact Nat.le_refl _⟩, ⟨by repeat (first | (with_reducible first | exact HB.out | apply below_alloc | apply pw_below_drewN | apply below_drew1) | exact HB.out)⟩⟩
      · replace c9 := Bool.eq_false_iff.mpr c9
        subst c9
        have H1 : (lockagelaw06_HeadRight.j0 k a0 l1 a3 true (decide ((a0.size : Int) > 400))) = some r := by rw [if_neg (show ¬ (false = true) by decide)] at H; exact H
        clear H
        have H := H1
        clear H1
        have H' := Aside0.mk H
        clear H
        go_wp2
        go_meet
        case rel => exact ⟨_, (decide ((a0.size : Int) > 400)), (by first | rfl | (simp; done) | (simp [*]; done)), H', ⟨by first | omega | exact Nat.le_refl _⟩, ⟨by repeat (first | (with_reducible first | exact HB.out | apply below_alloc | apply pw_below_drewN | apply below_drew1) | exact HB.out)⟩⟩
    case rest =>
      clear HC7
      try clear c1
      try clear p2
      try clear c4
      try clear c5
      try clear c6
      try clear c9
      obtain ⟨kq, x24_6, rfl, HA, HJ6, HB⟩ := hcut
      cases kq with
      | zero => exact absurd HA.out (by simp [lockagelaw06_HeadRight.j0])
      | succ kj6 =>
        have H := HA.out
        clear HA
        simp only [lockagelaw06_HeadRight.j0] at H
        have HC10 := Aside0.mk H
        clear H
        go_upto_if 24 with (fail)
        go_cut [0] (fun v0 wc => ∃ (kq : Nat) (x0_9 : ByteArray), v0 = .string x0_9 ∧ Aside0 (lockagelaw06_HeadRight.j1 kq x0_9 a3 true = some r) ∧ Aside0 (kq ≤ kj6) ∧ Aside0 (Below w.heap.size w wc))
        case first =>
          have H := HC10.out
          clear HC10
          by_cases c11 : x24_6 = true
          · subst c11
            have H1 : ((some (([(⟨#[71, 69, 84, 32, 47, 32, 72, 84, 84, 80, 47, 49, 46, 49, 13, 10]⟩ : ByteArray), (⟨#[72, 84, 84, 80, 47, 49, 46, 49, 32, 50, 48, 48, 32, 79, 75, 13, 10]⟩ : ByteArray)] : List ByteArray) : List ByteArray)).bind fun y284 => (if 0 ≤ ((l1.length : Int) % 2) then (if ((l1.length : Int) % 2) < (y284.length : Int) then ((lockagelaw06_Pieces.f kj6 l1).bind fun t288 => (if (rdOf ByteArray.empty y284 ((l1.length : Int) % 2)).size + t288.size ≤ 9223372036854775807 then (lockagelaw06_HeadRight.j1 kj6 ((rdOf ByteArray.empty y284 ((l1.length : Int) % 2)) ++ t288) a3 true) else (none))) else (none)) else (none))) = some r := by rw [if_pos rfl] at H; exact H
            clear H
            have H := H1
            clear H1
            obtain ⟨y284, hy284⟩ : ∃ y_ : List ByteArray, y_ = (([(⟨#[71, 69, 84, 32, 47, 32, 72, 84, 84, 80, 47, 49, 46, 49, 13, 10]⟩ : ByteArray), (⟨#[72, 84, 84, 80, 47, 49, 46, 49, 32, 50, 48, 48, 32, 79, 75, 13, 10]⟩ : ByteArray)] : List ByteArray)) := ⟨_, rfl⟩
            replace H : (if 0 ≤ ((l1.length : Int) % 2) then (if ((l1.length : Int) % 2) < (y284.length : Int) then ((lockagelaw06_Pieces.f kj6 l1).bind fun t288 => (if (rdOf ByteArray.empty y284 ((l1.length : Int) % 2)).size + t288.size ≤ 9223372036854775807 then (lockagelaw06_HeadRight.j1 kj6 ((rdOf ByteArray.empty y284 ((l1.length : Int) % 2)) ++ t288) a3 true) else (none))) else (none)) else (none)) = some r := by first | (rw [hy284]; with_reducible exact H) | (have H2_ := (Option.bind_some _ _).symm.trans H; rw [hy284]; with_reducible exact H2_) | (have H2_ := (Option.bind_some _ _).symm.trans H; with_reducible exact H2_) | with_reducible exact H | (rw [hy284]; exact H) | exact H
            have Ny284 := Aside0.mk hy284
            clear hy284
            obtain ⟨ji12, hji12⟩ : ∃ j_ : Int, ((l1.length : Int) % 2) = j_ := ⟨_, rfl⟩
            replace H : (if 0 ≤ (ji12) then (if (ji12) < (y284.length : Int) then ((lockagelaw06_Pieces.f kj6 l1).bind fun t288 => (if (rdOf ByteArray.empty y284 (ji12)).size + t288.size ≤ 9223372036854775807 then (lockagelaw06_HeadRight.j1 kj6 ((rdOf ByteArray.empty y284 (ji12)) ++ t288) a3 true) else (none))) else (none)) else (none)) = some r := by first | (rw [hji12] at H; exact H) | (simp only [hji12] at H ⊢; exact H)
            by_cases c13 : 0 ≤ (ji12)
            · rw [if_pos c13] at H
              have c13b0 : decide (0 ≤ (ji12)) = true := decide_eq_true c13
              clear c13
              (first | rw [c13b0] | (simp only [i64_w, i32_w]; rw [c13b0]) | skip)
              by_cases c14 : (ji12) < (y284.length : Int)
              · rw [if_pos c14] at H
                have c14b0 : decide ((ji12) < (y284.length : Int)) = true := decide_eq_true c14
                clear c14
                replace H := Option.bind_eq_some_iff.mp H
                obtain ⟨t288, A150, H⟩ := H
                replace H : (if (rdOf ByteArray.empty y284 (ji12)).size + t288.size ≤ 9223372036854775807 then (lockagelaw06_HeadRight.j1 kj6 ((rdOf ByteArray.empty y284 (ji12)) ++ t288) a3 true) else (none)) = some r := H
                have A15 := Aside0.mk A150
                clear A150
                by_cases c16 : (rdOf ByteArray.empty y284 (ji12)).size + t288.size ≤ 9223372036854775807
                · rw [if_pos c16] at H
                  have c16b0 := eq_true c16
                  have c16b1 : decide ((rdOf ByteArray.empty y284 (ji12)).size + t288.size ≤ 9223372036854775807) = true := decide_eq_true c16
                  try have c16b2 : (9223372036854775807 < (rdOf ByteArray.empty y284 (ji12)).size + t288.size) = False := eq_false (Nat.not_lt.2 c16)
                  have H' := Aside0.mk H
                  clear H
                  try go_wp2
                  have pi287 : (0 ≤ ((ji12) : Int)) = True := eq_true (of_decide_eq_true (by first | (with_reducible assumption) | assumption))
                  have qi287 : ((ji12) < (y284.length : Int)) = True := eq_true (of_decide_eq_true (by first | (with_reducible assumption) | assumption))
                  have n0_ := Aside0.mk (below_drew1 HB.out)
                  clear HB
                  have HB := n0_
                  clear n0_
                  refine start_ (n := 10) (S := fun w' => True) (ds := []) #[false, false, false, false, false, false, false, false, false, false] (by kernel_rfl) rfl rfl trivial (fun hHeld => ?_); refine with_tabW lockagelaw06_HeadRight.tab5 lockagelaw06_HeadRight.bits5 (fun HT_ HW_ => ?_)
                  generalize wc.drew = w17 at HB hHeld ⊢
                  refine pure_ (i := 1) (N := some 26) (v := ?_) (a' := ?_) #[false, true, false, false, false, false, false, false, false, false] rfl rfl (any_of HT_.out (by kernel_rfl)) (fun _ _ _ h => h) (Or.inl ⟨by rfl, ?_⟩) ?_ ?_
                  rotate_left
                  · intro w'
                    go_simp
                    with_reducible rfl
                  rotate_left
                  · simp only [Act.put, List.setIfInBounds_toArray, List.set_cons_zero, List.set_cons_succ, i64_w, i32_w]
                    rfl
                  refine pure_ (i := 6) (N := some 31) (v := ?_) (a' := ?_) #[false, true, false, false, false, false, true, false, false, false] rfl rfl (any_of HT_.out (by kernel_rfl)) (fun _ _ _ h => h) (Or.inl ⟨by rfl, ?_⟩) ?_ ?_
                  rotate_left
                  · intro w'
                    go_simp
                    with_reducible rfl
                  rotate_left
                  · simp only [Act.put, List.setIfInBounds_toArray, List.set_cons_zero, List.set_cons_succ, i64_w, i32_w]
                    rfl
                  refine inv_at [0, 2, 3, 4, 5, 7, 8, 9] (fun a0_ b a w' => ∃ (v285 : Value) (adz_v285 : Addr) (m4_ : Value), a = putSel a0_ b [(0, 25, v285), (2, 27, .int .i64 (l1.length : Int)), (3, 28, .int .i64 ji12), (4, 29, m4_), (5, 30, .string (rdOf ByteArray.empty y284 (ji12))), (7, 32, .string t288), (8, 33, .string ((rdOf ByteArray.empty y284 (ji12)) ++ t288)), (9, 0, .string ((rdOf ByteArray.empty y284 (ji12)) ++ t288))] ∧ (Below w.heap.size w w') ∧ (b 0 = true → Kd.R Kd.string 9 w' w.heap.size (fun _ => True) v285 y284) ∧ (b 0 = true → ∃ c_, (v285 : Value) = .slice (some adz_v285) y284.length c_) ∧ (b 4 = true → (m4_ : Value) = .pointer (some (adz_v285.add ((ji12)).toNat)))) HT_.out HW_.out (by kernel_rfl) (by kernel_rfl) ?_ ?_ ?_
                  · exact ⟨.bool false, ⟨0, 0, none⟩, .bool false, by simp only [putSel, Bool.false_eq_true, if_false], HB.out, fun h_ => absurd h_ (by decide), fun h_ => absurd h_ (by decide), fun h_ => absurd h_ (by decide)⟩
                  · skip
                    clear HB
                    refine steps_cons ?_ ?_
                    · rintro b a w' ⟨v285, adz_v285, m4_, ha, Q_HB, Q_HO286, Q_HA_HO286, Q_X4_⟩ hb_ hon hoff
                      refine ⟨_, rfl, fun K hK => ?_⟩
                      replace ha := Aside0.mk ha
                      have HB := Aside0.mk Q_HB
                      refine Kd.R_lit_step Kd.string _ 9 ?hg (N := 25) ?hd (xs := ([(⟨#[71, 69, 84, 32, 47, 32, 72, 84, 84, 80, 47, 49, 46, 49, 13, 10]⟩ : ByteArray), (⟨#[72, 84, 84, 80, 47, 49, 46, 49, 32, 50, 48, 48, 32, 79, 75, 13, 10]⟩ : ByteArray)] : List ByteArray)) (inner := [.string (⟨#[71, 69, 84, 32, 47, 32, 72, 84, 84, 80, 47, 49, 46, 49, 13, 10]⟩ : ByteArray), .string (⟨#[72, 84, 84, 80, 47, 49, 46, 49, 32, 50, 48, 48, 32, 79, 75, 13, 10]⟩ : ByteArray)]) (ok := fun _ => True) (okp := fun _ => True) ?hr ?hp (fun _ hk => hk) trivial (Below.refl _ _) (Nat.le_refl _) (by simp) ?_; (case hd => rfl); (case hg => rfl); (case hr => first | (go_simp; done) | (go_simp; rfl)); (case hp => exact (Reps.one (show Kd.M Kd.string _ _ _ (⟨#[71, 69, 84, 32, 47, 32, 72, 84, 84, 80, 47, 49, 46, 49, 13, 10]⟩ : ByteArray) [.string (⟨#[71, 69, 84, 32, 47, 32, 72, 84, 84, 80, 47, 49, 46, 49, 13, 10]⟩ : ByteArray)] from rfl) (Reps.one (show Kd.M Kd.string _ _ _ (⟨#[72, 84, 84, 80, 47, 49, 46, 49, 32, 50, 48, 48, 32, 79, 75, 13, 10]⟩ : ByteArray) [.string (⟨#[72, 84, 84, 80, 47, 49, 46, 49, 32, 50, 48, 48, 32, 79, 75, 13, 10]⟩ : ByteArray)] from rfl) (Reps.none _ _))))
                      intro v285 w18 ho19 hb hg_ hnew_
                      clear hg_ hnew_
                      (first | rw [← Ny284.out] at ho19 | (simp only [Int.reduceToNat] at ho19; rw [← Ny284.out] at ho19))
                      have n0_ := Aside0.mk (Kd.R_lower ho19 (below_size (by repeat (first | (with_reducible first | exact HB.out | apply below_alloc | apply pw_below_drewN | apply below_drew1) | exact HB.out))))
                      have n1_ := Aside0.mk (below_step (by repeat (first | (with_reducible first | exact HB.out | apply below_alloc | apply pw_below_drewN | apply below_drew1) | exact HB.out)) hb)
                      clear HB
                      have HO286 := n0_
                      have HB := n1_
                      clear n0_ n1_
                      clear hb ho19
                      obtain ⟨Ao20, co20, eo20⟩ := Kd.R_slice HO286.out
                      subst eo20
                      obtain ⟨ado20, fo20, _⟩ := Kd.at_string (Kd.R_reads' HO286.out).2.2 0 (by decide) (by rw [Ny284.out]; simp)
                      cases fo20
                      refine hK.out _ _ ⟨.slice (some ado20) y284.length co20, ado20, m4_, (by rw [ha.out]; exact putSel_upk 0 hb_ rfl rfl rfl), (by repeat (first | (with_reducible first | exact HB.out | apply below_alloc | apply pw_below_drewN | apply below_drew1) | exact HB.out)), fun _ => (by (with_reducible repeat (first | apply Kd.R_alloc | apply Kd.R_drewN | apply Kd.R_drew)); exact HO286.out), fun _ => ⟨_, rfl⟩, fun h0_ => absurd ((hoff 4 (by kernel_rfl)).symm.trans h0_) (by decide)⟩
                    refine steps_cons ?_ ?_
                    · rintro b a w' ⟨v285, adz_v285, m4_, ha, Q_HB, Q_HO286, Q_HA_HO286, Q_X4_⟩ hb_ hon hoff
                      refine ⟨_, rfl, fun K hK => ?_⟩
                      have e26 : a.tmps[26]? = some (.slice A1 l1.length c1) := by rw [ha]; exact (putSel_off rfl).trans rfl
                      replace ha := Aside0.mk ha
                      have HB := Aside0.mk Q_HB
                      refine value_ (w1 := w') (v := .int .i64 (l1.length : Int)) (by rfl) rfl ?_ ?_
                      · go_simp
                        (try simp only [i64_w])
                        try rfl
                      refine hK.out _ _ ⟨v285, adz_v285, m4_, (by rw [ha.out]; exact putSel_upk 1 hb_ rfl rfl rfl), Q_HB, Q_HO286, Q_HA_HO286, fun h0_ => absurd ((hoff 4 (by kernel_rfl)).symm.trans h0_) (by decide)⟩
                    refine steps_cons ?_ ?_
                    · rintro b a w' ⟨v285, adz_v285, m4_, ha, Q_HB, Q_HO286, Q_HA_HO286, Q_X4_⟩ hb_ hon hoff
                      refine ⟨_, rfl, fun K hK => ?_⟩
                      have e27 : a.tmps[27]? = some (.int .i64 (l1.length : Int)) := by rw [ha]; exact putSel_on (e := (2, 27, .int .i64 (l1.length : Int))) 1 rfl rfl (hon 2 (by kernel_rfl)) rfl
                      replace ha := Aside0.mk ha
                      have HB := Aside0.mk Q_HB
                      refine value_ (w1 := w') (v := .int .i64 ji12) (by rfl) rfl ?_ ?_
                      · go_simp
                        (try simp only [i64_w])
                        (try exact hji12)
                        try rfl
                      refine hK.out _ _ ⟨v285, adz_v285, m4_, (by rw [ha.out]; exact putSel_upk 2 hb_ rfl rfl rfl), Q_HB, Q_HO286, Q_HA_HO286, fun h0_ => absurd ((hoff 4 (by kernel_rfl)).symm.trans h0_) (by decide)⟩
                    refine steps_cons ?_ ?_
                    · rintro b a w' ⟨v285, adz_v285, m4_, ha, Q_HB, Q_HO286, Q_HA_HO286, Q_X4_⟩ hb_ hon hoff
                      refine ⟨_, rfl, fun K hK => ?_⟩
                      have e25 : a.tmps[25]? = some (v285) := by rw [ha]; exact putSel_on (e := (0, 25, v285)) 0 rfl rfl (hon 0 (by kernel_rfl)) rfl
                      have e28 : a.tmps[28]? = some (.int .i64 ji12) := by rw [ha]; exact putSel_on (e := (3, 28, .int .i64 ji12)) 2 rfl rfl (hon 3 (by kernel_rfl)) rfl
                      replace ha := Aside0.mk ha
                      have HB := Aside0.mk Q_HB
                      have HO286 := Aside0.mk (Q_HO286 (hon 0 (by kernel_rfl)))
                      have HA_HO286 := Aside0.mk (Q_HA_HO286 (hon 0 (by kernel_rfl)))
                      obtain ⟨c_, hv_⟩ := HA_HO286.out
                      rw [hv_] at e25
                      refine value_ (w1 := w') (v := .pointer (some (adz_v285.add ((ji12)).toNat))) (by rfl) rfl ?_ ?_
                      · go_simp
                        (try simp only [i64_w])
                        try rfl
                      refine hK.out _ _ ⟨v285, adz_v285, (.pointer (some (adz_v285.add ((ji12)).toNat))), (by rw [ha.out]; exact putSel_upk 3 hb_ rfl rfl rfl), Q_HB, Q_HO286, Q_HA_HO286, fun _ => rfl⟩
                    refine steps_cons ?_ ?_
                    · rintro b a w' ⟨v285, adz_v285, m4_, ha, Q_HB, Q_HO286, Q_HA_HO286, Q_X4_⟩ hb_ hon hoff
                      refine ⟨_, rfl, fun K hK => ?_⟩
                      have e29 : a.tmps[29]? = some (m4_) := by rw [ha]; exact putSel_on (e := (4, 29, m4_)) 3 rfl rfl (hon 4 (by kernel_rfl)) rfl
                      rw [Q_X4_ (hon 4 (by kernel_rfl))] at e29
                      replace ha := Aside0.mk ha
                      have HB := Aside0.mk Q_HB
                      have HO286 := Aside0.mk (Q_HO286 (hon 0 (by kernel_rfl)))
                      have HA_HO286 := Aside0.mk (Q_HA_HO286 (hon 0 (by kernel_rfl)))
                      obtain ⟨c_, hv_⟩ := HA_HO286.out
                      have hF_ := HO286.out
                      rw [hv_] at hF_
                      obtain ⟨ad_, ea_, hx_⟩ := Kd.at_string (Kd.R_reads' hF_).2.2 (ji12) (of_eq_true pi287) (of_eq_true qi287)
                      cases ea_
                      refine value_ (w1 := w') (v := .string (rdOf ByteArray.empty y284 (ji12))) (by rfl) rfl ?_ ?_
                      · go_simp
                        (try simp only [i64_w])
                        try rfl
                      refine hK.out _ _ ⟨v285, adz_v285, m4_, (by rw [ha.out]; exact putSel_upk 4 hb_ rfl rfl rfl), Q_HB, Q_HO286, Q_HA_HO286, Q_X4_⟩
                    refine steps_cons ?_ ?_
                    · rintro b a w' ⟨v285, adz_v285, m4_, ha, Q_HB, Q_HO286, Q_HA_HO286, Q_X4_⟩ hb_ hon hoff
                      refine ⟨_, rfl, fun K hK => ?_⟩
                      have e31 : a.tmps[31]? = some (.slice A1 l1.length c1) := by rw [ha]; exact (putSel_off rfl).trans rfl
                      replace ha := Aside0.mk ha
                      have HB := Aside0.mk Q_HB
                      refine goes_ Tryd.func10 (by kernel_rfl) rfl #[.slice A1 l1.length c1] (by rfl) rfl rfl (by first | (simp only [List.map_toArray, List.map_cons, List.map_nil, Act.eval, Array.getD_eq_getD_getElem?, Option.getD_some, e31]; done) | (simp only [List.map_toArray, List.map_cons, List.map_nil, Act.eval, Array.getD_eq_getD_getElem?, Option.getD_some, e31]; rfl)) ?_
                      with_reducible refine (lockagelaw06_Pieces.calls kj6 _ _ l1 t288 _ ?side1 ?side2 A15.out).mono ?_
                      (case side1 => repeat (first | exact (Kd.C_below HR1.out HB.out) | (with_reducible refine Kd.C_alloc ?_ _) | (with_reducible refine Kd.C_drewN ?_ _) | (with_reducible refine Kd.C_drew ?_)))
                      (case side2 => exact HC1.out)
                      rintro e w18 ⟨rfl, hb⟩
                      refine ⟨_, rfl, ?_⟩
                      have n0_ := Aside0.mk (below_step (by repeat (first | (with_reducible first | exact HB.out | apply below_alloc | apply pw_below_drewN | apply below_drew1) | exact HB.out)) hb)
                      have z_HO286 := fun (h0_ : b 0 = true) => (show Kd.R Kd.string 9 w18 w.heap.size (fun _ => True) v285 y284 from by first | exact (Kd.R_below (by (with_reducible repeat (first | apply Kd.R_alloc | apply Kd.R_drewN | apply Kd.R_drew)); exact (Q_HO286 h0_)) hb) | exact Kd.R_mono (Kd.R_below (by (with_reducible repeat (first | apply Kd.R_alloc | apply Kd.R_drewN | apply Kd.R_drew)); exact (Q_HO286 h0_)) hb) (fun _ h_ => by first | trivial | exact h_ | exact h_.1))
                      clear HB
                      have HB := n0_
                      clear n0_
                      (try clear hb)
                      (try clear hb2)
                      (try clear hk)
                      (try clear hi)
                      refine hK.out _ _ ⟨v285, adz_v285, m4_, (by rw [ha.out]; exact putSel_upk 5 hb_ rfl rfl rfl), (by repeat (first | (with_reducible first | exact HB.out | apply below_alloc | apply pw_below_drewN | apply below_drew1) | exact HB.out)), z_HO286, Q_HA_HO286, Q_X4_⟩
                    refine steps_cons ?_ ?_
                    · rintro b a w' ⟨v285, adz_v285, m4_, ha, Q_HB, Q_HO286, Q_HA_HO286, Q_X4_⟩ hb_ hon hoff
                      refine ⟨_, rfl, fun K hK => ?_⟩
                      have e30 : a.tmps[30]? = some (.string (rdOf ByteArray.empty y284 (ji12))) := by rw [ha]; exact putSel_on (e := (5, 30, .string (rdOf ByteArray.empty y284 (ji12)))) 4 rfl rfl (hon 5 (by kernel_rfl)) rfl
                      have e32 : a.tmps[32]? = some (.string t288) := by rw [ha]; exact putSel_on (e := (7, 32, .string t288)) 5 rfl rfl (hon 7 (by kernel_rfl)) rfl
                      replace ha := Aside0.mk ha
                      have HB := Aside0.mk Q_HB
                      have HO286 := Aside0.mk (Q_HO286 (hon 0 (by kernel_rfl)))
                      have HA_HO286 := Aside0.mk (Q_HA_HO286 (hon 0 (by kernel_rfl)))
                      refine value_ (w1 := w') (v := .string ((rdOf ByteArray.empty y284 (ji12)) ++ t288)) (by rfl) rfl ?_ ?_
                      · go_simp
                        (try simp only [i64_w])
                        try rfl
                      refine hK.out _ _ ⟨v285, adz_v285, m4_, (by rw [ha.out]; exact putSel_upk 6 hb_ rfl rfl rfl), Q_HB, Q_HO286, Q_HA_HO286, Q_X4_⟩
                    refine steps_cons ?_ ?_
                    · rintro b a w' ⟨v285, adz_v285, m4_, ha, Q_HB, Q_HO286, Q_HA_HO286, Q_X4_⟩ hb_ hon hoff
                      refine ⟨_, rfl, fun K hK => ?_⟩
                      have e33 : a.tmps[33]? = some (.string ((rdOf ByteArray.empty y284 (ji12)) ++ t288)) := by rw [ha]; exact putSel_on (e := (8, 33, .string ((rdOf ByteArray.empty y284 (ji12)) ++ t288))) 6 rfl rfl (hon 8 (by kernel_rfl)) rfl
                      replace ha := Aside0.mk ha
                      have HB := Aside0.mk Q_HB
                      have HO286 := Aside0.mk (Q_HO286 (hon 0 (by kernel_rfl)))
                      have HA_HO286 := Aside0.mk (Q_HA_HO286 (hon 0 (by kernel_rfl)))
                      refine value_ (w1 := w') (v := .string ((rdOf ByteArray.empty y284 (ji12)) ++ t288)) (by rfl) rfl ?_ ?_
                      · go_simp
                        (try simp only [i64_w])
                        try rfl
                      refine hK.out _ _ ⟨v285, adz_v285, m4_, (by rw [ha.out]; exact putSel_upk 7 hb_ rfl rfl rfl), Q_HB, Q_HO286, Q_HA_HO286, Q_X4_⟩
                    exact steps_nil
                  rintro b a w22 hall ⟨v285, adz_v285, m4_, ha, Q_HB, Q_HO286, Q_HA_HO286, Q_X4_⟩
                  clear HB
                  have hb0_ := hall 0 (by kernel_rfl)
                  have hb2_ := hall 2 (by kernel_rfl)
                  have hb3_ := hall 3 (by kernel_rfl)
                  have hb4_ := hall 4 (by kernel_rfl)
                  have hb5_ := hall 5 (by kernel_rfl)
                  have hb7_ := hall 7 (by kernel_rfl)
                  have hb8_ := hall 8 (by kernel_rfl)
                  have hb9_ := hall 9 (by kernel_rfl)
                  subst ha
                  obtain rfl := Q_X4_ hb4_
                  simp only [putSel, hb0_, hb2_, hb3_, hb4_, hb5_, hb7_, hb8_, hb9_, if_true, Act.put, List.setIfInBounds_toArray, List.set_cons_zero, List.set_cons_succ]
                  have HB := Aside0.mk Q_HB
                  clear Q_HB
                  have HO286 := Aside0.mk (Q_HO286 hb0_)
                  clear Q_HO286
                  have HA_HO286 := Aside0.mk (Q_HA_HO286 hb0_)
                  clear Q_HA_HO286
                  clear hall hb0_ hb2_ hb3_ hb4_ hb5_ hb7_ hb8_ hb9_
                  obtain ⟨co23, eo23⟩ := HA_HO286.out
                  clear HA_HO286
                  subst eo23
                  try go_wp2
                  go_meet
                  case rel => exact ⟨_, ((rdOf ByteArray.empty y284 (ji12)) ++ t288), (by first | rfl | (simp; done) | (simp only [← hji12] <;> (first | rfl | simp)) | (simp [*]; done)), H', ⟨by have := HJ6.out; first | omega | exact Nat.le_refl _⟩, ⟨by repeat (first | (with_reducible first | exact HB.out | apply below_alloc | apply pw_below_drewN | apply below_drew1) | exact HB.out)⟩⟩
                · rw [if_neg c16] at H
                  exact absurd H (by simp)
              · rw [if_neg c14] at H
                exact absurd H (by simp)
            · rw [if_neg c13] at H
              exact absurd H (by simp)
          · replace c11 := Bool.eq_false_iff.mpr c11
            subst c11
            have H1 : (lockagelaw06_HeadRight.j1 kj6 a0 a3 true) = some r := by rw [if_neg (show ¬ (false = true) by decide)] at H; exact H
            clear H
            have H := H1
            clear H1
            have H' := Aside0.mk H
            clear H
            go_wp2
            go_meet
            case rel => exact ⟨_, (a0), (by first | rfl | (simp; done) | (simp [*]; done)), H', ⟨by have := HJ6.out; first | omega | exact Nat.le_refl _⟩, ⟨by repeat (first | (with_reducible first | exact HB.out | apply below_alloc | apply pw_below_drewN | apply below_drew1) | exact HB.out)⟩⟩
        case rest =>
          clear HC10
          try clear c1
          try clear p2
          try clear qi2
          try clear c4
          try clear c5
          try clear c6
          try clear c9
          try clear c10
          try clear c11
          try clear c13
          try clear c13b0
          try clear c14
          try clear c14b0
          try clear c16
          try clear c16b0
          try clear c16b1
          try clear c16b2
          try clear p2
          obtain ⟨kq, x0_9, rfl, HA, HJ9, HB⟩ := hcut
          cases kq with
          | zero => exact absurd HA.out (by simp [lockagelaw06_HeadRight.j1])
          | succ kj9 =>
            have H := HA.out
            clear HA
            simp only [lockagelaw06_HeadRight.j1] at H
            replace H := Option.bind_eq_some_iff.mp H
            obtain ⟨⟨t289, t290, t291, t292, t293, t294, t297⟩, A240, H⟩ := H
            replace H : (if t297 = 0 then ((head_Print.f kj9 t289 t290 t291 t292 t293 t294 a3).bind fun bt300 => ((head_Right.f kj9 t289 t290 t291 t292 t293 t294 a3).bind fun t302 => (if t302 = true then (if bt300.2 = 0 then (lockagelaw06_HeadRight.j2 kj9 a3 true bt300.1 (decide ((bt300.1.size : Int) < 4)) t289 t290 t291 t292 t293 t294) else (lockagelaw06_HeadRight.j2 kj9 a3 true bt300.1 true t289 t290 t291 t292 t293 t294)) else (lockagelaw06_HeadRight.j2 kj9 a3 true bt300.1 true t289 t290 t291 t292 t293 t294)))) else (if true = true then ((lockageref06_Same.f kj9 t289 t290 t291 t292 t293 t294 (⟨#[]⟩ : ByteArray) (⟨#[]⟩ : ByteArray) 0 (⟨#[]⟩ : ByteArray) 0 ([] : List (S46))).bind fun t299 => (some t299)) else (none))) = some r := H
            have A24 := Aside0.mk A240
            clear A240
            by_cases c25 : t297 = 0
            · rw [if_pos c25] at H
              have c25b0 : (t297 == 0) = true := beq_iff_eq.mpr c25
              have c25b1 : (t297 != 0) = false := bne_eq_false_iff_eq.mpr c25
              clear c25
              replace H := Option.bind_eq_some_iff.mp H
              obtain ⟨⟨t300, t301⟩, A260, H⟩ := H
              replace H : ((head_Right.f kj9 t289 t290 t291 t292 t293 t294 a3).bind fun t302 => (if t302 = true then (if t301 = 0 then (lockagelaw06_HeadRight.j2 kj9 a3 true t300 (decide ((t300.size : Int) < 4)) t289 t290 t291 t292 t293 t294) else (lockagelaw06_HeadRight.j2 kj9 a3 true t300 true t289 t290 t291 t292 t293 t294)) else (lockagelaw06_HeadRight.j2 kj9 a3 true t300 true t289 t290 t291 t292 t293 t294))) = some r := H
              have A26 := Aside0.mk A260
              clear A260
              have HC27 := Aside0.mk H
              clear H
              go_upto_region 10 with (first | ((with_reducible refine gate_callee (f := 8) rfl ?_); refine goesL_ (some 37) rfl rfl Tryd.func8 (by kernel_rfl) rfl #[.string x0_9, .bool a3] rfl (by (try simp only [List.map_toArray, List.map_cons, List.map_nil]); first | done | rfl | (simp only [List.length_drop, List.length_take]; rfl)) ?_; (with_reducible refine (head_Parse.calls kj9 x0_9 a3 t289 t290 t291 t292 t293 t294 t297 _ ?side1 A24.out).mono ?_); (case side1 => exact glob_below HG_.out (by repeat (first | (with_reducible first | exact HB.out | apply below_alloc | apply pw_below_drewN | apply below_drew1) | exact HB.out))); rintro e w28 ⟨v295, rfl, ho0, hb⟩; refine ⟨_, rfl, ?_⟩; have n0_ := Aside0.mk (Kd.R_lower ho0 (below_size (by repeat (first | (with_reducible first | exact HB.out | apply below_alloc | apply pw_below_drewN | apply below_drew1) | exact HB.out)))); have n1_ := Aside0.mk (below_step (by repeat (first | (with_reducible first | exact HB.out | apply below_alloc | apply pw_below_drewN | apply below_drew1) | exact HB.out)) hb); clear HB; have HO296 := n0_; have HB := n1_; clear n0_ n1_; (try clear hb); (try clear hb2); (try clear hk); (try clear hi); (try clear ho0)) | ((with_reducible refine gate_dst (N := 10) rfl ?_); (try (refine gate_guard (by rfl) ?_; dsimp only)); refine box_event ?hg (N := 10) ?hd (cs := #[.string (⟨#[]⟩ : ByteArray), .string (⟨#[]⟩ : ByteArray), .int .i64 0, .string (⟨#[]⟩ : ByteArray), .int .i64 0, .slice none 0 0]) (t := 26) ?hr ?_; (case hd => rfl); (case hg => rfl); (case hr => first | (go_simp; done) | (go_simp; rfl)); intro gb298 hg w29 hbox hb; have n0_ := Aside0.mk (Kd.R_below (by (with_reducible repeat (first | apply Kd.R_alloc | apply Kd.R_drewN | apply Kd.R_drew)); exact HO296.out) hb); have n1_ := Aside0.mk (below_step (by repeat (first | (with_reducible first | exact HB.out | apply below_alloc | apply pw_below_drewN | apply below_drew1) | exact HB.out)) hb); have n2_ := Aside0.mk (hbox); have n3_ := Aside0.mk ((by rw [hg]; exact (below_size (by repeat (first | (with_reducible first | exact HB.out | apply below_alloc | apply pw_below_drewN | apply below_drew1) | exact HB.out))) : w.heap.size ≤ gb298)); have n4_ := Aside0.mk ((by rw [hg]; exact (below_size (by repeat (first | (with_reducible first | exact HB.out | apply below_alloc | apply pw_below_drewN | apply below_drew1) | exact HB.out))) : w.heap.size ≤ gb298)); clear HO296; clear HB; have HO296 := n0_; have HB := n1_; have BK298 := n2_; have GW298 := n3_; have GE298 := n4_; clear n0_ n1_ n2_ n3_ n4_; clear hb hbox hg; have hcz30_0 : w29.cell? ⟨gb298, 0, none⟩ = some (.string (⟨#[]⟩ : ByteArray)) := (blk_cell BK298.out 0).trans rfl; have hcz30_1 : w29.cell? ⟨gb298, 1, none⟩ = some (.string (⟨#[]⟩ : ByteArray)) := (blk_cell BK298.out 1).trans rfl; have hcz30_2 : w29.cell? ⟨gb298, 2, none⟩ = some (.int .i64 0) := (blk_cell BK298.out 2).trans rfl; have hcz30_3 : w29.cell? ⟨gb298, 3, none⟩ = some (.string (⟨#[]⟩ : ByteArray)) := (blk_cell BK298.out 3).trans rfl; have hcz30_4 : w29.cell? ⟨gb298, 4, none⟩ = some (.int .i64 0) := (blk_cell BK298.out 4).trans rfl; have hcz30_5 : w29.cell? ⟨gb298, 5, none⟩ = some (.slice none 0 0) := (blk_cell BK298.out 5).trans rfl; have hfz30_0 := blk_frozen BK298.out 0; have hfz30_1 := blk_frozen BK298.out 1; have hfz30_2 := blk_frozen BK298.out 2; have hfz30_3 := blk_frozen BK298.out 3; have hfz30_4 := blk_frozen BK298.out 4; have hfz30_5 := blk_frozen BK298.out 5; obtain ⟨Ao31, co31, eo31⟩ := Kd.R_slice HO296.out; subst eo31) | ((with_reducible refine gate_callee (f := 7) rfl ?_); refine goesL_ (some 51) rfl rfl Tryd.func7 (by kernel_rfl) rfl #[.agg #[.string t289, .string t290, .int .i64 t291, .string t292, .int .i64 t293, .slice Ao31 t294.length co31], .bool a3] rfl (by (try simp only [List.map_toArray, List.map_cons, List.map_nil]); first | done | rfl | (simp only [List.length_drop, List.length_take]; rfl)) ?_; (with_reducible refine (head_Print.calls kj9 t289 t290 t291 t292 t293 _ _ t294 a3 t300 t301 _ ?side1 ?side2 ?side3 A26.out).mono ?_); (case side1 => refine (Kd.R_reads' (e := 46) (base := w.heap.size) (ok := fun k_ => True) (n := t294.length) (c := co31) ?_).2.2; exact (by (with_reducible repeat (first | apply Kd.R_alloc | apply Kd.R_drewN | apply Kd.R_drew)); exact (Kd.R_mono (Kd.R_far (p := ⟨gb298, 5, none⟩) (Kd.R_far (p := ⟨gb298, 4, none⟩) (Kd.R_far (p := ⟨gb298, 3, none⟩) (Kd.R_far (p := ⟨gb298, 2, none⟩) (Kd.R_far (p := ⟨gb298, 1, none⟩) (Kd.R_far (p := ⟨gb298, 0, none⟩) (Kd.R_types HO296.out BK298.out (by decide)) (fun _ hk => hk.2) (.string t289)) (fun _ hk => hk.2) (.string t290)) (fun _ hk => hk.2) (.int .i64 t291)) (fun _ hk => hk.2) (.string t292)) (fun _ hk => hk.2) (.int .i64 t293)) (fun _ hk => hk.2) (.slice Ao31 t294.length co31)) (fun _ h_ => h_.1)))); (case side2 => exact (Kd.R_reads' HO296.out).2.1); (case side3 => exact glob_below HG_.out (by repeat (first | (with_reducible first | exact HB.out | apply below_alloc | apply pw_below_drewN | apply below_drew1 | refine below_set ?_ GE298.out) | exact HB.out))); rintro e w32 ⟨rfl, hb⟩; refine ⟨_, rfl, ?_⟩; have n0_ := Aside0.mk (Kd.R_below (by (with_reducible repeat (first | apply Kd.R_alloc | apply Kd.R_drewN | apply Kd.R_drew)); exact (Kd.R_mono (Kd.R_far (p := ⟨gb298, 5, none⟩) (Kd.R_far (p := ⟨gb298, 4, none⟩) (Kd.R_far (p := ⟨gb298, 3, none⟩) (Kd.R_far (p := ⟨gb298, 2, none⟩) (Kd.R_far (p := ⟨gb298, 1, none⟩) (Kd.R_far (p := ⟨gb298, 0, none⟩) (Kd.R_types HO296.out BK298.out (by decide)) (fun _ hk => hk.2) (.string t289)) (fun _ hk => hk.2) (.string t290)) (fun _ hk => hk.2) (.int .i64 t291)) (fun _ hk => hk.2) (.string t292)) (fun _ hk => hk.2) (.int .i64 t293)) (fun _ hk => hk.2) (.slice Ao31 t294.length co31)) (fun _ h_ => h_.1))) hb); have n1_ := Aside0.mk (blk_below (g := gb298) (o := .cells #[.string t289, .string t290, .int .i64 t291, .string t292, .int .i64 t293, .slice Ao31 t294.length co31] 26 (0, 0)) (by (with_reducible repeat (first | refine blk_drewN ?_ _ | refine blk_drew ?_ | refine blk_alloc ?_ _)); refine blk_put (cs := #[.string t289, .string t290, .int .i64 t291, .string t292, .int .i64 t293, .slice none 0 0]) ?_ 5 _ rfl; (with_reducible repeat (first | refine blk_drewN ?_ _ | refine blk_drew ?_ | refine blk_alloc ?_ _)); refine blk_put (cs := #[.string t289, .string t290, .int .i64 t291, .string t292, .int .i64 0, .slice none 0 0]) ?_ 4 _ rfl; (with_reducible repeat (first | refine blk_drewN ?_ _ | refine blk_drew ?_ | refine blk_alloc ?_ _)); refine blk_put (cs := #[.string t289, .string t290, .int .i64 t291, .string (⟨#[]⟩ : ByteArray), .int .i64 0, .slice none 0 0]) ?_ 3 _ rfl; (with_reducible repeat (first | refine blk_drewN ?_ _ | refine blk_drew ?_ | refine blk_alloc ?_ _)); refine blk_put (cs := #[.string t289, .string t290, .int .i64 0, .string (⟨#[]⟩ : ByteArray), .int .i64 0, .slice none 0 0]) ?_ 2 _ rfl; (with_reducible repeat (first | refine blk_drewN ?_ _ | refine blk_drew ?_ | refine blk_alloc ?_ _)); refine blk_put (cs := #[.string t289, .string (⟨#[]⟩ : ByteArray), .int .i64 0, .string (⟨#[]⟩ : ByteArray), .int .i64 0, .slice none 0 0]) ?_ 1 _ rfl; (with_reducible repeat (first | refine blk_drewN ?_ _ | refine blk_drew ?_ | refine blk_alloc ?_ _)); refine blk_put (cs := #[.string (⟨#[]⟩ : ByteArray), .string (⟨#[]⟩ : ByteArray), .int .i64 0, .string (⟨#[]⟩ : ByteArray), .int .i64 0, .slice none 0 0]) ?_ 0 _ rfl; (with_reducible repeat (first | refine blk_drewN ?_ _ | refine blk_drew ?_ | refine blk_alloc ?_ _)); exact BK298.out) hb); have n2_ := Aside0.mk (below_step (by repeat (first | (with_reducible first | exact HB.out | apply below_alloc | apply pw_below_drewN | apply below_drew1 | refine below_set ?_ GE298.out) | exact HB.out)) hb); clear HO296; clear BK298; clear HB; have HO296 := n0_; have BK298 := n1_; have HB := n2_; clear n0_ n1_ n2_; (try clear hb); (try clear hb2); (try clear hk); (try clear hi)))
              (try simp only [Act.put, List.setIfInBounds_toArray, List.set_cons_zero, List.set_cons_succ])
              go_cut [66] (fun v66 wc => ∃ (kq : Nat) (x66_26 : Bool), v66 = .bool x66_26 ∧ Aside0 (lockagelaw06_HeadRight.j2 kq a3 true t300 x66_26 t289 t290 t291 t292 t293 t294 = some r) ∧ Aside0 (kq ≤ kj9) ∧ Aside0 (Kd.R k46 46 wc w.heap.size (fun _ => True) (.slice Ao31 t294.length co31) t294) ∧ Aside0 (wc.heap[gb298]? = some (.cells #[.string t289, .string t290, .int .i64 t291, .string t292, .int .i64 t293, (.slice Ao31 t294.length co31)] 26 (0, 0))) ∧ Aside0 (Below w.heap.size w wc))
              case first =>
                have H := HC27.out
                clear HC27
                replace H := Option.bind_eq_some_iff.mp H
                obtain ⟨t302, A330, H⟩ := H
                replace H : (if t302 = true then (if t301 = 0 then (lockagelaw06_HeadRight.j2 kj9 a3 true t300 (decide ((t300.size : Int) < 4)) t289 t290 t291 t292 t293 t294) else (lockagelaw06_HeadRight.j2 kj9 a3 true t300 true t289 t290 t291 t292 t293 t294)) else (lockagelaw06_HeadRight.j2 kj9 a3 true t300 true t289 t290 t291 t292 t293 t294)) = some r := H
                have A33 := Aside0.mk A330
                clear A330
                by_cases c34 : t302 = true
                · subst c34
                  have H1 : (if t301 = 0 then (lockagelaw06_HeadRight.j2 kj9 a3 true t300 (decide ((t300.size : Int) < 4)) t289 t290 t291 t292 t293 t294) else (lockagelaw06_HeadRight.j2 kj9 a3 true t300 true t289 t290 t291 t292 t293 t294)) = some r := by rw [if_pos rfl] at H; exact H
                  clear H
                  have H := H1
                  clear H1
                  by_cases c35 : t301 = 0
                  · rw [if_pos c35] at H
                    have c35b0 : (t301 == 0) = true := beq_iff_eq.mpr c35
                    have c35b1 : (t301 != 0) = false := bne_eq_false_iff_eq.mpr c35
                    clear c35
                    (first | rw [c35b0] | (simp only [i64_w, i32_w]; rw [c35b0]) | skip)
                    have H' := Aside0.mk H
                    clear H
                    have hcz36_0 : w32.cell? ⟨gb298, 0, none⟩ = some (.string t289) := (blk_cell BK298.out 0).trans rfl
                    have hcz36_1 : w32.cell? ⟨gb298, 1, none⟩ = some (.string t290) := (blk_cell BK298.out 1).trans rfl
                    have hcz36_2 : w32.cell? ⟨gb298, 2, none⟩ = some (.int .i64 t291) := (blk_cell BK298.out 2).trans rfl
                    have hcz36_3 : w32.cell? ⟨gb298, 3, none⟩ = some (.string t292) := (blk_cell BK298.out 3).trans rfl
                    have hcz36_4 : w32.cell? ⟨gb298, 4, none⟩ = some (.int .i64 t293) := (blk_cell BK298.out 4).trans rfl
                    have hcz36_5 : w32.cell? ⟨gb298, 5, none⟩ = some (.slice Ao31 t294.length co31) := (blk_cell BK298.out 5).trans rfl
                    have hfz36_0 := blk_frozen BK298.out 0
                    have hfz36_1 := blk_frozen BK298.out 1
                    have hfz36_2 := blk_frozen BK298.out 2
                    have hfz36_3 := blk_frozen BK298.out 3
                    have hfz36_4 := blk_frozen BK298.out 4
                    have hfz36_5 := blk_frozen BK298.out 5
                    go_wp2_with (first | ((with_reducible refine gate_callee (f := 11) rfl ?_); refine goesL_ (some 56) rfl rfl Tryd.func11 (by kernel_rfl) rfl #[.agg #[.string t289, .string t290, .int .i64 t291, .string t292, .int .i64 t293, .slice Ao31 t294.length co31], .bool a3] rfl (by (try simp only [List.map_toArray, List.map_cons, List.map_nil]); first | done | rfl | (simp only [List.length_drop, List.length_take]; rfl)) ?_; (with_reducible refine (head_Right.calls kj9 t289 t290 t291 t292 t293 _ _ t294 a3 true _ ?side1 ?side2 A33.out).mono ?_); (case side1 => repeat (first | exact (Kd.R_reads' HO296.out).2.2 | (with_reducible refine Kd.C_alloc ?_ _) | (with_reducible refine Kd.C_drewN ?_ _) | (with_reducible refine Kd.C_drew ?_))); (case side2 => exact (Kd.R_reads' HO296.out).2.1); rintro e w37 ⟨rfl, hb⟩; refine ⟨_, rfl, ?_⟩; have n0_ := Aside0.mk (Kd.R_below (by (with_reducible repeat (first | apply Kd.R_alloc | apply Kd.R_drewN | apply Kd.R_drew)); exact HO296.out) hb); have n1_ := Aside0.mk (blk_below (g := gb298) (o := .cells #[.string t289, .string t290, .int .i64 t291, .string t292, .int .i64 t293, .slice Ao31 t294.length co31] 26 (0, 0)) (by (with_reducible repeat (first | refine blk_drewN ?_ _ | refine blk_drew ?_ | refine blk_alloc ?_ _)); exact BK298.out) hb); have n2_ := Aside0.mk (below_step (by repeat (first | (with_reducible first | exact HB.out | apply below_alloc | apply pw_below_drewN | apply below_drew1 | refine below_set ?_ GE298.out) | exact HB.out)) hb); clear HO296; clear BK298; clear HB; have HO296 := n0_; have BK298 := n1_; have HB := n2_; clear n0_ n1_ n2_; (try clear hb); (try clear hb2); (try clear hk); (try clear hi)))
                    go_meet
                    case rel => exact ⟨_, (decide ((t300.size : Int) < 4)), (by first | rfl | (simp; done) | (simp [*]; done)), H', ⟨by have := HJ6.out; have := HJ9.out; first | omega | exact Nat.le_refl _⟩, ⟨by (with_reducible repeat (first | apply Kd.R_alloc | apply Kd.R_drewN | apply Kd.R_drew)); exact HO296.out⟩, ⟨by (with_reducible repeat (first | refine blk_drewN ?_ _ | refine blk_drew ?_ | refine blk_alloc ?_ _)); exact BK298.out⟩, ⟨by repeat (first | (with_reducible first | exact HB.out | apply below_alloc | apply pw_below_drewN | apply below_drew1 | refine below_set ?_ GE298.out) | exact HB.out)⟩⟩
                  · rw [if_neg c35] at H
                    have c35b0 : (t301 == 0) = false := beq_eq_false_iff_ne.mpr c35
                    have c35b1 : (t301 != 0) = true := bne_iff_ne.mpr c35
                    (first | rw [c35b0] | (simp only [i64_w, i32_w]; rw [c35b0]) | skip)
                    have H' := Aside0.mk H
                    clear H
                    have hcz38_0 : w32.cell? ⟨gb298, 0, none⟩ = some (.string t289) := (blk_cell BK298.out 0).trans rfl
                    have hcz38_1 : w32.cell? ⟨gb298, 1, none⟩ = some (.string t290) := (blk_cell BK298.out 1).trans rfl
                    have hcz38_2 : w32.cell? ⟨gb298, 2, none⟩ = some (.int .i64 t291) := (blk_cell BK298.out 2).trans rfl
                    have hcz38_3 : w32.cell? ⟨gb298, 3, none⟩ = some (.string t292) := (blk_cell BK298.out 3).trans rfl
                    have hcz38_4 : w32.cell? ⟨gb298, 4, none⟩ = some (.int .i64 t293) := (blk_cell BK298.out 4).trans rfl
                    have hcz38_5 : w32.cell? ⟨gb298, 5, none⟩ = some (.slice Ao31 t294.length co31) := (blk_cell BK298.out 5).trans rfl
                    have hfz38_0 := blk_frozen BK298.out 0
                    have hfz38_1 := blk_frozen BK298.out 1
                    have hfz38_2 := blk_frozen BK298.out 2
                    have hfz38_3 := blk_frozen BK298.out 3
                    have hfz38_4 := blk_frozen BK298.out 4
                    have hfz38_5 := blk_frozen BK298.out 5
                    go_wp2_with (first | ((with_reducible refine gate_callee (f := 11) rfl ?_); refine goesL_ (some 56) rfl rfl Tryd.func11 (by kernel_rfl) rfl #[.agg #[.string t289, .string t290, .int .i64 t291, .string t292, .int .i64 t293, .slice Ao31 t294.length co31], .bool a3] rfl (by (try simp only [List.map_toArray, List.map_cons, List.map_nil]); first | done | rfl | (simp only [List.length_drop, List.length_take]; rfl)) ?_; (with_reducible refine (head_Right.calls kj9 t289 t290 t291 t292 t293 _ _ t294 a3 true _ ?side1 ?side2 A33.out).mono ?_); (case side1 => repeat (first | exact (Kd.R_reads' HO296.out).2.2 | (with_reducible refine Kd.C_alloc ?_ _) | (with_reducible refine Kd.C_drewN ?_ _) | (with_reducible refine Kd.C_drew ?_))); (case side2 => exact (Kd.R_reads' HO296.out).2.1); rintro e w39 ⟨rfl, hb⟩; refine ⟨_, rfl, ?_⟩; have n0_ := Aside0.mk (Kd.R_below (by (with_reducible repeat (first | apply Kd.R_alloc | apply Kd.R_drewN | apply Kd.R_drew)); exact HO296.out) hb); have n1_ := Aside0.mk (blk_below (g := gb298) (o := .cells #[.string t289, .string t290, .int .i64 t291, .string t292, .int .i64 t293, .slice Ao31 t294.length co31] 26 (0, 0)) (by (with_reducible repeat (first | refine blk_drewN ?_ _ | refine blk_drew ?_ | refine blk_alloc ?_ _)); exact BK298.out) hb); have n2_ := Aside0.mk (below_step (by repeat (first | (with_reducible first | exact HB.out | apply below_alloc | apply pw_below_drewN | apply below_drew1 | refine below_set ?_ GE298.out) | exact HB.out)) hb); clear HO296; clear BK298; clear HB; have HO296 := n0_; have BK298 := n1_; have HB := n2_; clear n0_ n1_ n2_; (try clear hb); (try clear hb2); (try clear hk); (try clear hi)))
                    go_meet
                    case rel => exact ⟨_, (true), (by first | rfl | (simp; done) | (simp [*]; done)), H', ⟨by have := HJ6.out; have := HJ9.out; first | omega | exact Nat.le_refl _⟩, ⟨by (with_reducible repeat (first | apply Kd.R_alloc | apply Kd.R_drewN | apply Kd.R_drew)); exact HO296.out⟩, ⟨by (with_reducible repeat (first | refine blk_drewN ?_ _ | refine blk_drew ?_ | refine blk_alloc ?_ _)); exact BK298.out⟩, ⟨by repeat (first | (with_reducible first | exact HB.out | apply below_alloc | apply pw_below_drewN | apply below_drew1 | refine below_set ?_ GE298.out) | exact HB.out)⟩⟩
                · replace c34 := Bool.eq_false_iff.mpr c34
                  subst c34
                  have H1 : (lockagelaw06_HeadRight.j2 kj9 a3 true t300 true t289 t290 t291 t292 t293 t294) = some r := by rw [if_neg (show ¬ (false = true) by decide)] at H; exact H
                  clear H
                  have H := H1
                  clear H1
                  have H' := Aside0.mk H
                  clear H
                  have hcz40_0 : w32.cell? ⟨gb298, 0, none⟩ = some (.string t289) := (blk_cell BK298.out 0).trans rfl
                  have hcz40_1 : w32.cell? ⟨gb298, 1, none⟩ = some (.string t290) := (blk_cell BK298.out 1).trans rfl
                  have hcz40_2 : w32.cell? ⟨gb298, 2, none⟩ = some (.int .i64 t291) := (blk_cell BK298.out 2).trans rfl
                  have hcz40_3 : w32.cell? ⟨gb298, 3, none⟩ = some (.string t292) := (blk_cell BK298.out 3).trans rfl
                  have hcz40_4 : w32.cell? ⟨gb298, 4, none⟩ = some (.int .i64 t293) := (blk_cell BK298.out 4).trans rfl
                  have hcz40_5 : w32.cell? ⟨gb298, 5, none⟩ = some (.slice Ao31 t294.length co31) := (blk_cell BK298.out 5).trans rfl
                  have hfz40_0 := blk_frozen BK298.out 0
                  have hfz40_1 := blk_frozen BK298.out 1
                  have hfz40_2 := blk_frozen BK298.out 2
                  have hfz40_3 := blk_frozen BK298.out 3
                  have hfz40_4 := blk_frozen BK298.out 4
                  have hfz40_5 := blk_frozen BK298.out 5
                  go_wp2_with (first | ((with_reducible refine gate_callee (f := 11) rfl ?_); refine goesL_ (some 56) rfl rfl Tryd.func11 (by kernel_rfl) rfl #[.agg #[.string t289, .string t290, .int .i64 t291, .string t292, .int .i64 t293, .slice Ao31 t294.length co31], .bool a3] rfl (by (try simp only [List.map_toArray, List.map_cons, List.map_nil]); first | done | rfl | (simp only [List.length_drop, List.length_take]; rfl)) ?_; (with_reducible refine (head_Right.calls kj9 t289 t290 t291 t292 t293 _ _ t294 a3 false _ ?side1 ?side2 A33.out).mono ?_); (case side1 => repeat (first | exact (Kd.R_reads' HO296.out).2.2 | (with_reducible refine Kd.C_alloc ?_ _) | (with_reducible refine Kd.C_drewN ?_ _) | (with_reducible refine Kd.C_drew ?_))); (case side2 => exact (Kd.R_reads' HO296.out).2.1); rintro e w41 ⟨rfl, hb⟩; refine ⟨_, rfl, ?_⟩; have n0_ := Aside0.mk (Kd.R_below (by (with_reducible repeat (first | apply Kd.R_alloc | apply Kd.R_drewN | apply Kd.R_drew)); exact HO296.out) hb); have n1_ := Aside0.mk (blk_below (g := gb298) (o := .cells #[.string t289, .string t290, .int .i64 t291, .string t292, .int .i64 t293, .slice Ao31 t294.length co31] 26 (0, 0)) (by (with_reducible repeat (first | refine blk_drewN ?_ _ | refine blk_drew ?_ | refine blk_alloc ?_ _)); exact BK298.out) hb); have n2_ := Aside0.mk (below_step (by repeat (first | (with_reducible first | exact HB.out | apply below_alloc | apply pw_below_drewN | apply below_drew1 | refine below_set ?_ GE298.out) | exact HB.out)) hb); clear HO296; clear BK298; clear HB; have HO296 := n0_; have BK298 := n1_; have HB := n2_; clear n0_ n1_ n2_; (try clear hb); (try clear hb2); (try clear hk); (try clear hi)))
                  go_meet
                  case rel => exact ⟨_, (true), (by first | rfl | (simp; done) | (simp [*]; done)), H', ⟨by have := HJ6.out; have := HJ9.out; first | omega | exact Nat.le_refl _⟩, ⟨by (with_reducible repeat (first | apply Kd.R_alloc | apply Kd.R_drewN | apply Kd.R_drew)); exact HO296.out⟩, ⟨by (with_reducible repeat (first | refine blk_drewN ?_ _ | refine blk_drew ?_ | refine blk_alloc ?_ _)); exact BK298.out⟩, ⟨by repeat (first | (with_reducible first | exact HB.out | apply below_alloc | apply pw_below_drewN | apply below_drew1 | refine below_set ?_ GE298.out) | exact HB.out)⟩⟩
              case rest =>
                clear HC27
                try clear c1
                try clear c2
                try clear p2
                try clear qi2
                try clear c3
                try clear c4
                try clear c5
                try clear c6
                try clear c7
                try clear c8
                try clear c9
                try clear c10
                try clear c11
                try clear c13
                try clear c13b0
                try clear c14
                try clear c14b0
                try clear c16
                try clear c16b0
                try clear c16b1
                try clear c16b2
                try clear c25
                try clear c25b0
                try clear c25b1
                try clear qi28
                try clear c34
                try clear c35
                try clear c35b0
                try clear c35b1
                try clear hcz30_0
                try clear hcz30_1
                try clear hcz30_2
                try clear hcz30_3
                try clear hcz30_4
                try clear hcz30_5
                try clear hcz36_0
                try clear hcz36_1
                try clear hcz36_2
                try clear hcz36_3
                try clear hcz36_4
                try clear hcz36_5
                try clear hcz38_0
                try clear hcz38_1
                try clear hcz38_2
                try clear hcz38_3
                try clear hcz38_4
                try clear hcz38_5
                try clear hcz40_0
                try clear hcz40_1
                try clear hcz40_2
                try clear hcz40_3
                try clear hcz40_4
                try clear hcz40_5
                try clear hfz30_0
                try clear hfz30_1
                try clear hfz30_2
                try clear hfz30_3
                try clear hfz30_4
                try clear hfz30_5
                try clear hfz36_0
                try clear hfz36_1
                try clear hfz36_2
                try clear hfz36_3
                try clear hfz36_4
                try clear hfz36_5
                try clear hfz38_0
                try clear hfz38_1
                try clear hfz38_2
                try clear hfz38_3
                try clear hfz38_4
                try clear hfz38_5
                try clear hfz40_0
                try clear hfz40_1
                try clear hfz40_2
                try clear hfz40_3
                try clear hfz40_4
                try clear hfz40_5
                try clear p2
                obtain ⟨kq, x66_26, rfl, HA, HJ26, HO_299005, BK298, HB⟩ := hcut
                cases kq with
                | zero => exact absurd HA.out (by simp [lockagelaw06_HeadRight.j2])
                | succ kj26 =>
                  have H := HA.out
                  clear HA
                  simp only [lockagelaw06_HeadRight.j2] at H
                  by_cases c42 : x66_26 = true
                  · subst c42
                    have H1 : (none) = some r := by rw [if_pos rfl] at H; exact H
                    clear H
                    have H := H1
                    clear H1
                    exact absurd H (by simp)
                  · replace c42 := Bool.eq_false_iff.mpr c42
                    subst c42
                    have H1 : (if 0 ≤ (wrap64 ((t300.size : Int) - 4)) then (if (wrap64 ((t300.size : Int) - 4)) ≤ (t300.size : Int) then ((head_Parse.f kj26 (t300.extract 0 ((wrap64 ((t300.size : Int) - 4)) : Int).toNat) a3).bind fun bt303 => (if true = true then (if bt303.2.2.2.2.2.2 = 0 then ((lockageref06_Same.f kj26 bt303.1 bt303.2.1 bt303.2.2.1 bt303.2.2.2.1 bt303.2.2.2.2.1 bt303.2.2.2.2.2.1 t289 t290 t291 t292 t293 t294).bind fun t313 => (some t313)) else (none)) else (none))) else (none)) else (none)) = some r := by rw [if_neg (show ¬ (false = true) by decide)] at H; exact H
                    clear H
                    have H := H1
                    clear H1
                    obtain ⟨ji43, hji43⟩ : ∃ j_ : Int, (wrap64 ((t300.size : Int) - 4)) = j_ := ⟨_, rfl⟩
                    replace H : (if 0 ≤ (ji43) then (if (ji43) ≤ (t300.size : Int) then ((head_Parse.f kj26 (t300.extract 0 ((ji43) : Int).toNat) a3).bind fun bt303 => (if true = true then (if bt303.2.2.2.2.2.2 = 0 then ((lockageref06_Same.f kj26 bt303.1 bt303.2.1 bt303.2.2.1 bt303.2.2.2.1 bt303.2.2.2.2.1 bt303.2.2.2.2.2.1 t289 t290 t291 t292 t293 t294).bind fun t313 => (some t313)) else (none)) else (none))) else (none)) else (none)) = some r := by first | (rw [hji43] at H; exact H) | (simp only [hji43] at H ⊢; exact H)
                    have hji43w : (IntKind.i64.wrap ((t300.size : Int) - 4)) = ji43 := (i64_w _).trans hji43
                    by_cases c44 : 0 ≤ (ji43)
                    · rw [if_pos c44] at H
                      have c44b0 := eq_true c44
                      have c44b1 : decide (0 ≤ (ji43)) = true := decide_eq_true c44
                      clear c44
                      by_cases c45 : (ji43) ≤ (t300.size : Int)
                      · rw [if_pos c45] at H
                        have c45b0 := eq_true c45
                        have c45b1 : decide ((ji43) ≤ (t300.size : Int)) = true := decide_eq_true c45
                        clear c45
                        replace H := Option.bind_eq_some_iff.mp H
                        obtain ⟨⟨t303, t304, t305, t306, t307, t308, t311⟩, A460, H⟩ := H
                        replace H : (if true = true then (if t311 = 0 then ((lockageref06_Same.f kj26 t303 t304 t305 t306 t307 t308 t289 t290 t291 t292 t293 t294).bind fun t313 => (some t313)) else (none)) else (none)) = some r := H
                        have A46 := Aside0.mk A460
                        clear A460
                        replace H : (if t311 = 0 then ((lockageref06_Same.f kj26 t303 t304 t305 t306 t307 t308 t289 t290 t291 t292 t293 t294).bind fun t313 => (some t313)) else (none)) = some r := by rw [if_pos rfl] at H; exact H
                        by_cases c47 : t311 = 0
                        · rw [if_pos c47] at H
                          have c47b0 : (t311 == 0) = true := beq_iff_eq.mpr c47
                          have c47b1 : (t311 != 0) = false := bne_eq_false_iff_eq.mpr c47
                          clear c47
                          replace H := Option.bind_eq_some_iff.mp H
                          obtain ⟨t313, A480, H⟩ := H
                          replace H : (some t313) = some r := H
                          have A48 := Aside0.mk A480
                          clear A480
                          obtain rfl := Option.some.inj H
                          go_wp2_with (first | ((with_reducible refine gate_callee (f := 8) rfl ?_); refine goesL_ (some 74) rfl rfl Tryd.func8 (by kernel_rfl) rfl #[.string (t300.extract 0 ((ji43) : Int).toNat), .bool a3] rfl (by (try simp only [List.map_toArray, List.map_cons, List.map_nil]); first | done | (simp only [hji43]; rfl) | rfl | (simp only [List.length_drop, List.length_take]; rfl)) ?_; (with_reducible refine (head_Parse.calls kj26 (t300.extract 0 ((ji43) : Int).toNat) a3 t303 t304 t305 t306 t307 t308 t311 _ ?side1 A46.out).mono ?_); (case side1 => exact glob_below HG_.out (by repeat (first | (with_reducible first | exact HB.out | apply below_alloc | apply pw_below_drewN | apply below_drew1 | refine below_set ?_ GE298.out) | exact HB.out))); rintro e w49 ⟨v309, rfl, ho0, hb⟩; refine ⟨_, rfl, ?_⟩; have n0_ := Aside0.mk (Kd.R_elder' (by (with_reducible repeat (first | apply Kd.R_alloc | apply Kd.R_drewN | apply Kd.R_drew)); exact HO_299005.out) (Kd.R_base ho0) hb); have n1_ := Aside0.mk (Kd.R_lower (Kd.R_new' ho0 (Kd.R_lt (by (with_reducible repeat (first | apply Kd.R_alloc | apply Kd.R_drewN | apply Kd.R_drew)); exact HO_299005.out))) (below_size (by repeat (first | (with_reducible first | exact HB.out | apply below_alloc | apply pw_below_drewN | apply below_drew1 | refine below_set ?_ GE298.out) | exact HB.out)))); have n2_ := Aside0.mk (blk_below (g := gb298) (o := .cells #[.string t289, .string t290, .int .i64 t291, .string t292, .int .i64 t293, .slice Ao31 t294.length co31] 26 (0, 0)) (by (with_reducible repeat (first | refine blk_drewN ?_ _ | refine blk_drew ?_ | refine blk_alloc ?_ _)); exact BK298.out) hb); have n3_ := Aside0.mk (below_step (by repeat (first | (with_reducible first | exact HB.out | apply below_alloc | apply pw_below_drewN | apply below_drew1 | refine below_set ?_ GE298.out) | exact HB.out)) hb); clear HO_299005; clear BK298; clear HB; have HO_299005 := n0_; have HO310 := n1_; have BK298 := n2_; have HB := n3_; clear n0_ n1_ n2_ n3_; (try clear hb); (try clear hb2); (try clear hk); (try clear hi); (try clear ho0)) | ((with_reducible refine gate_dst (N := 14) rfl ?_); (try (refine gate_guard (by rfl) ?_; dsimp only)); refine box_event ?hg (N := 14) ?hd (cs := #[.string (⟨#[]⟩ : ByteArray), .string (⟨#[]⟩ : ByteArray), .int .i64 0, .string (⟨#[]⟩ : ByteArray), .int .i64 0, .slice none 0 0]) (t := 26) ?hr ?_; (case hd => rfl); (case hg => rfl); (case hr => first | (go_simp; done) | (go_simp; rfl)); intro gb312 hg w50 hbox hb; have n0_ := Aside0.mk (Kd.R_below (by (with_reducible repeat (first | apply Kd.R_alloc | apply Kd.R_drewN | apply Kd.R_drew)); exact HO_299005.out) hb); have n1_ := Aside0.mk (Kd.R_below (by (with_reducible repeat (first | apply Kd.R_alloc | apply Kd.R_drewN | apply Kd.R_drew)); exact HO310.out) hb); have n2_ := Aside0.mk (blk_below (g := gb298) (o := .cells #[.string t289, .string t290, .int .i64 t291, .string t292, .int .i64 t293, .slice Ao31 t294.length co31] 26 (0, 0)) (by (with_reducible repeat (first | refine blk_drewN ?_ _ | refine blk_drew ?_ | refine blk_alloc ?_ _)); exact BK298.out) hb); have n3_ := Aside0.mk (below_step (by repeat (first | (with_reducible first | exact HB.out | apply below_alloc | apply pw_below_drewN | apply below_drew1 | refine below_set ?_ GE298.out) | exact HB.out)) hb); have n4_ := Aside0.mk (hbox); have n5_ := Aside0.mk ((by rw [hg]; exact (below_size (by repeat (first | (with_reducible first | exact HB.out | apply below_alloc | apply pw_below_drewN | apply below_drew1 | refine below_set ?_ GE298.out) | exact HB.out))) : w.heap.size ≤ gb312)); have n6_ := Aside0.mk ((by rw [hg]; exact (below_size (by repeat (first | (with_reducible first | exact HB.out | apply below_alloc | apply pw_below_drewN | apply below_drew1 | refine below_set ?_ GE298.out) | exact HB.out))) : w.heap.size ≤ gb312)); have n7_ := Aside0.mk ((by rw [hg]; exact Nat.ne_of_lt (blk_lt (g := gb298) (o := .cells #[.string t289, .string t290, .int .i64 t291, .string t292, .int .i64 t293, .slice Ao31 t294.length co31] 26 (0, 0)) (by (with_reducible repeat (first | refine blk_drewN ?_ _ | refine blk_drew ?_ | refine blk_alloc ?_ _)); exact BK298.out)) : gb298 ≠ gb312)); have n8_ := Aside0.mk ((by rw [hg]; exact Nat.ne_of_gt (blk_lt (g := gb298) (o := .cells #[.string t289, .string t290, .int .i64 t291, .string t292, .int .i64 t293, .slice Ao31 t294.length co31] 26 (0, 0)) (by (with_reducible repeat (first | refine blk_drewN ?_ _ | refine blk_drew ?_ | refine blk_alloc ?_ _)); exact BK298.out)) : gb312 ≠ gb298)); clear HO_299005; clear HO310; clear BK298; clear HB; have HO_299005 := n0_; have HO310 := n1_; have BK298 := n2_; have HB := n3_; have BK312 := n4_; have GW312 := n5_; have GE312 := n6_; have NB298_312 := n7_; have NB312_298 := n8_; clear n0_ n1_ n2_ n3_ n4_ n5_ n6_ n7_ n8_; clear hb hbox hg; have hnb51 := NB312_298.out; have hnc51 := NB298_312.out; have hcz52_0 : w50.cell? ⟨gb312, 0, none⟩ = some (.string (⟨#[]⟩ : ByteArray)) := (blk_cell BK312.out 0).trans rfl; have hcz52_1 : w50.cell? ⟨gb312, 1, none⟩ = some (.string (⟨#[]⟩ : ByteArray)) := (blk_cell BK312.out 1).trans rfl; have hcz52_2 : w50.cell? ⟨gb312, 2, none⟩ = some (.int .i64 0) := (blk_cell BK312.out 2).trans rfl; have hcz52_3 : w50.cell? ⟨gb312, 3, none⟩ = some (.string (⟨#[]⟩ : ByteArray)) := (blk_cell BK312.out 3).trans rfl; have hcz52_4 : w50.cell? ⟨gb312, 4, none⟩ = some (.int .i64 0) := (blk_cell BK312.out 4).trans rfl; have hcz52_5 : w50.cell? ⟨gb312, 5, none⟩ = some (.slice none 0 0) := (blk_cell BK312.out 5).trans rfl; have hfz52_0 := blk_frozen BK312.out 0; have hfz52_1 := blk_frozen BK312.out 1; have hfz52_2 := blk_frozen BK312.out 2; have hfz52_3 := blk_frozen BK312.out 3; have hfz52_4 := blk_frozen BK312.out 4; have hfz52_5 := blk_frozen BK312.out 5; obtain ⟨Ao53, co53, eo53⟩ := Kd.R_slice HO310.out; subst eo53; have hcz54_0 : w50.cell? ⟨gb298, 0, none⟩ = some (.string t289) := (blk_cell BK298.out 0).trans rfl; have hcz54_1 : w50.cell? ⟨gb298, 1, none⟩ = some (.string t290) := (blk_cell BK298.out 1).trans rfl; have hcz54_2 : w50.cell? ⟨gb298, 2, none⟩ = some (.int .i64 t291) := (blk_cell BK298.out 2).trans rfl; have hcz54_3 : w50.cell? ⟨gb298, 3, none⟩ = some (.string t292) := (blk_cell BK298.out 3).trans rfl; have hcz54_4 : w50.cell? ⟨gb298, 4, none⟩ = some (.int .i64 t293) := (blk_cell BK298.out 4).trans rfl; have hcz54_5 : w50.cell? ⟨gb298, 5, none⟩ = some (.slice Ao31 t294.length co31) := (blk_cell BK298.out 5).trans rfl; have hfz54_0 := blk_frozen BK298.out 0; have hfz54_1 := blk_frozen BK298.out 1; have hfz54_2 := blk_frozen BK298.out 2; have hfz54_3 := blk_frozen BK298.out 3; have hfz54_4 := blk_frozen BK298.out 4; have hfz54_5 := blk_frozen BK298.out 5) | (go_at_call 9; (with_reducible refine (lockageref06_Same.calls kj26 t303 t304 t305 t306 t307 _ _ t308 t289 t290 t291 t292 t293 _ _ t294 t313 _ ?side1 ?side2 ?side3 ?side4 A48.out).mono ?_); (case side1 => refine (Kd.R_reads' (e := 46) (base := w.heap.size) (ok := fun k_ => (True ∧ some k_ ≠ (.slice Ao31 t294.length co31 : Value).ownBlock)) (n := t308.length) (c := co53) ?_).2.2; exact (by (with_reducible repeat (first | apply Kd.R_alloc | apply Kd.R_drewN | apply Kd.R_drew)); exact (Kd.R_mono (Kd.R_far (p := ⟨gb312, 5, none⟩) (Kd.R_far (p := ⟨gb312, 4, none⟩) (Kd.R_far (p := ⟨gb312, 3, none⟩) (Kd.R_far (p := ⟨gb312, 2, none⟩) (Kd.R_far (p := ⟨gb312, 1, none⟩) (Kd.R_far (p := ⟨gb312, 0, none⟩) (Kd.R_types HO310.out BK312.out (by decide)) (fun _ hk => hk.2) (.string t303)) (fun _ hk => hk.2) (.string t304)) (fun _ hk => hk.2) (.int .i64 t305)) (fun _ hk => hk.2) (.string t306)) (fun _ hk => hk.2) (.int .i64 t307)) (fun _ hk => hk.2) (.slice Ao53 t308.length co53)) (fun _ h_ => h_.1)))); (case side2 => exact (Kd.R_reads' HO310.out).2.1); (case side3 => refine (Kd.R_reads' (e := 46) (base := w.heap.size) (ok := fun k_ => (True ∧ some k_ ≠ (.slice Ao53 t308.length co53 : Value).ownBlock)) (n := t294.length) (c := co31) ?_).2.2; exact (by (with_reducible repeat (first | apply Kd.R_alloc | apply Kd.R_drewN | apply Kd.R_drew)); exact (Kd.R_mono (Kd.R_far (p := ⟨gb312, 5, none⟩) (Kd.R_far (p := ⟨gb312, 4, none⟩) (Kd.R_far (p := ⟨gb312, 3, none⟩) (Kd.R_far (p := ⟨gb312, 2, none⟩) (Kd.R_far (p := ⟨gb312, 1, none⟩) (Kd.R_far (p := ⟨gb312, 0, none⟩) (Kd.R_types HO_299005.out BK312.out (by decide)) (fun _ hk => hk.2) (.string t303)) (fun _ hk => hk.2) (.string t304)) (fun _ hk => hk.2) (.int .i64 t305)) (fun _ hk => hk.2) (.string t306)) (fun _ hk => hk.2) (.int .i64 t307)) (fun _ hk => hk.2) (.slice Ao53 t308.length co53)) (fun _ h_ => h_.1)))); (case side4 => exact (Kd.R_reads' HO_299005.out).2.1); rintro e w55 ⟨rfl, hb⟩; have n0_ := Aside0.mk (Kd.R_below (by (with_reducible repeat (first | apply Kd.R_alloc | apply Kd.R_drewN | apply Kd.R_drew)); exact (Kd.R_mono (Kd.R_far (p := ⟨gb312, 5, none⟩) (Kd.R_far (p := ⟨gb312, 4, none⟩) (Kd.R_far (p := ⟨gb312, 3, none⟩) (Kd.R_far (p := ⟨gb312, 2, none⟩) (Kd.R_far (p := ⟨gb312, 1, none⟩) (Kd.R_far (p := ⟨gb312, 0, none⟩) (Kd.R_types HO_299005.out BK312.out (by decide)) (fun _ hk => hk.2) (.string t303)) (fun _ hk => hk.2) (.string t304)) (fun _ hk => hk.2) (.int .i64 t305)) (fun _ hk => hk.2) (.string t306)) (fun _ hk => hk.2) (.int .i64 t307)) (fun _ hk => hk.2) (.slice Ao53 t308.length co53)) (fun _ h_ => h_.1))) hb); have n1_ := Aside0.mk (Kd.R_below (by (with_reducible repeat (first | apply Kd.R_alloc | apply Kd.R_drewN | apply Kd.R_drew)); exact (Kd.R_mono (Kd.R_far (p := ⟨gb312, 5, none⟩) (Kd.R_far (p := ⟨gb312, 4, none⟩) (Kd.R_far (p := ⟨gb312, 3, none⟩) (Kd.R_far (p := ⟨gb312, 2, none⟩) (Kd.R_far (p := ⟨gb312, 1, none⟩) (Kd.R_far (p := ⟨gb312, 0, none⟩) (Kd.R_types HO310.out BK312.out (by decide)) (fun _ hk => hk.2) (.string t303)) (fun _ hk => hk.2) (.string t304)) (fun _ hk => hk.2) (.int .i64 t305)) (fun _ hk => hk.2) (.string t306)) (fun _ hk => hk.2) (.int .i64 t307)) (fun _ hk => hk.2) (.slice Ao53 t308.length co53)) (fun _ h_ => h_.1))) hb); have n2_ := Aside0.mk (blk_below (g := gb298) (o := .cells #[.string t289, .string t290, .int .i64 t291, .string t292, .int .i64 t293, .slice Ao31 t294.length co31] 26 (0, 0)) (by (with_reducible repeat (first | refine blk_drewN ?_ _ | refine blk_drew ?_ | refine blk_alloc ?_ _)); refine blk_far ?_ NB298_312.out _; (with_reducible repeat (first | refine blk_drewN ?_ _ | refine blk_drew ?_ | refine blk_alloc ?_ _)); refine blk_far ?_ NB298_312.out _; (with_reducible repeat (first | refine blk_drewN ?_ _ | refine blk_drew ?_ | refine blk_alloc ?_ _)); refine blk_far ?_ NB298_312.out _; (with_reducible repeat (first | refine blk_drewN ?_ _ | refine blk_drew ?_ | refine blk_alloc ?_ _)); refine blk_far ?_ NB298_312.out _; (with_reducible repeat (first | refine blk_drewN ?_ _ | refine blk_drew ?_ | refine blk_alloc ?_ _)); refine blk_far ?_ NB298_312.out _; (with_reducible repeat (first | refine blk_drewN ?_ _ | refine blk_drew ?_ | refine blk_alloc ?_ _)); refine blk_far ?_ NB298_312.out _; (with_reducible repeat (first | refine blk_drewN ?_ _ | refine blk_drew ?_ | refine blk_alloc ?_ _)); exact BK298.out) hb); have n3_ := Aside0.mk (blk_below (g := gb312) (o := .cells #[.string t303, .string t304, .int .i64 t305, .string t306, .int .i64 t307, .slice Ao53 t308.length co53] 26 (0, 0)) (by (with_reducible repeat (first | refine blk_drewN ?_ _ | refine blk_drew ?_ | refine blk_alloc ?_ _)); refine blk_put (cs := #[.string t303, .string t304, .int .i64 t305, .string t306, .int .i64 t307, .slice none 0 0]) ?_ 5 _ rfl; (with_reducible repeat (first | refine blk_drewN ?_ _ | refine blk_drew ?_ | refine blk_alloc ?_ _)); refine blk_put (cs := #[.string t303, .string t304, .int .i64 t305, .string t306, .int .i64 0, .slice none 0 0]) ?_ 4 _ rfl; (with_reducible repeat (first | refine blk_drewN ?_ _ | refine blk_drew ?_ | refine blk_alloc ?_ _)); refine blk_put (cs := #[.string t303, .string t304, .int .i64 t305, .string (⟨#[]⟩ : ByteArray), .int .i64 0, .slice none 0 0]) ?_ 3 _ rfl; (with_reducible repeat (first | refine blk_drewN ?_ _ | refine blk_drew ?_ | refine blk_alloc ?_ _)); refine blk_put (cs := #[.string t303, .string t304, .int .i64 0, .string (⟨#[]⟩ : ByteArray), .int .i64 0, .slice none 0 0]) ?_ 2 _ rfl; (with_reducible repeat (first | refine blk_drewN ?_ _ | refine blk_drew ?_ | refine blk_alloc ?_ _)); refine blk_put (cs := #[.string t303, .string (⟨#[]⟩ : ByteArray), .int .i64 0, .string (⟨#[]⟩ : ByteArray), .int .i64 0, .slice none 0 0]) ?_ 1 _ rfl; (with_reducible repeat (first | refine blk_drewN ?_ _ | refine blk_drew ?_ | refine blk_alloc ?_ _)); refine blk_put (cs := #[.string (⟨#[]⟩ : ByteArray), .string (⟨#[]⟩ : ByteArray), .int .i64 0, .string (⟨#[]⟩ : ByteArray), .int .i64 0, .slice none 0 0]) ?_ 0 _ rfl; (with_reducible repeat (first | refine blk_drewN ?_ _ | refine blk_drew ?_ | refine blk_alloc ?_ _)); exact BK312.out) hb); have n4_ := Aside0.mk (below_step (by repeat (first | (with_reducible first | exact HB.out | apply below_alloc | apply pw_below_drewN | apply below_drew1 | refine below_set ?_ GE298.out | refine below_set ?_ GE312.out) | exact HB.out)) hb); clear HO_299005; clear HO310; clear BK298; clear BK312; clear HB; have HO_299005 := n0_; have HO310 := n1_; have BK298 := n2_; have BK312 := n3_; have HB := n4_; clear n0_ n1_ n2_ n3_ n4_; (try clear hb); (try clear hb2); (try clear hk); (try clear hi)))
                          go_ret
                          exact ⟨by first | rfl | (simp [errW_none, errW_some] <;> rfl) | (simp only [← hji43]; first | rfl | (simp [errW_none, errW_some] <;> rfl)) | (simp [*, errW_none, errW_some] <;> rfl), by repeat (first | (with_reducible first | exact HB.out | apply below_alloc | apply pw_below_drewN | apply below_drew1 | refine below_set ?_ GE298.out | refine below_set ?_ GE312.out) | exact HB.out)⟩
                        · rw [if_neg c47] at H
                          exact absurd H (by simp)
                      · rw [if_neg c45] at H
                        exact absurd H (by simp)
                    · rw [if_neg c44] at H
                      exact absurd H (by simp)
            · rw [if_neg c25] at H
              have c25b0 : (t297 == 0) = false := beq_eq_false_iff_ne.mpr c25
              have c25b1 : (t297 != 0) = true := bne_iff_ne.mpr c25
              replace H : ((lockageref06_Same.f kj9 t289 t290 t291 t292 t293 t294 (⟨#[]⟩ : ByteArray) (⟨#[]⟩ : ByteArray) 0 (⟨#[]⟩ : ByteArray) 0 ([] : List (S46))).bind fun t299 => (some t299)) = some r := by rw [if_pos rfl] at H; exact H
              replace H := Option.bind_eq_some_iff.mp H
              obtain ⟨t299, A560, H⟩ := H
              replace H : (some t299) = some r := H
              have A56 := Aside0.mk A560
              clear A560
              obtain rfl := Option.some.inj H
              go_wp2_with (first | ((with_reducible refine gate_callee (f := 8) rfl ?_); refine goesL_ (some 37) rfl rfl Tryd.func8 (by kernel_rfl) rfl #[.string x0_9, .bool a3] rfl (by (try simp only [List.map_toArray, List.map_cons, List.map_nil]); first | done | rfl | (simp only [List.length_drop, List.length_take]; rfl)) ?_; (with_reducible refine (head_Parse.calls kj9 x0_9 a3 t289 t290 t291 t292 t293 t294 t297 _ ?side1 A24.out).mono ?_); (case side1 => exact glob_below HG_.out (by repeat (first | (with_reducible first | exact HB.out | apply below_alloc | apply pw_below_drewN | apply below_drew1) | exact HB.out))); rintro e w57 ⟨v295, rfl, ho0, hb⟩; refine ⟨_, rfl, ?_⟩; have n0_ := Aside0.mk (Kd.R_lower ho0 (below_size (by repeat (first | (with_reducible first | exact HB.out | apply below_alloc | apply pw_below_drewN | apply below_drew1) | exact HB.out)))); have n1_ := Aside0.mk (below_step (by repeat (first | (with_reducible first | exact HB.out | apply below_alloc | apply pw_below_drewN | apply below_drew1) | exact HB.out)) hb); clear HB; have HO296 := n0_; have HB := n1_; clear n0_ n1_; (try clear hb); (try clear hb2); (try clear hk); (try clear hi); (try clear ho0)) | ((with_reducible refine gate_dst (N := 10) rfl ?_); (try (refine gate_guard (by rfl) ?_; dsimp only)); refine box_event ?hg (N := 10) ?hd (cs := #[.string (⟨#[]⟩ : ByteArray), .string (⟨#[]⟩ : ByteArray), .int .i64 0, .string (⟨#[]⟩ : ByteArray), .int .i64 0, .slice none 0 0]) (t := 26) ?hr ?_; (case hd => rfl); (case hg => rfl); (case hr => first | (go_simp; done) | (go_simp; rfl)); intro gb298 hg w58 hbox hb; have n0_ := Aside0.mk (Kd.R_below (by (with_reducible repeat (first | apply Kd.R_alloc | apply Kd.R_drewN | apply Kd.R_drew)); exact HO296.out) hb); have n1_ := Aside0.mk (below_step (by repeat (first | (with_reducible first | exact HB.out | apply below_alloc | apply pw_below_drewN | apply below_drew1) | exact HB.out)) hb); have n2_ := Aside0.mk (hbox); have n3_ := Aside0.mk ((by rw [hg]; exact (below_size (by repeat (first | (with_reducible first | exact HB.out | apply below_alloc | apply pw_below_drewN | apply below_drew1) | exact HB.out))) : w.heap.size ≤ gb298)); have n4_ := Aside0.mk ((by rw [hg]; exact (below_size (by repeat (first | (with_reducible first | exact HB.out | apply below_alloc | apply pw_below_drewN | apply below_drew1) | exact HB.out))) : w.heap.size ≤ gb298)); clear HO296; clear HB; have HO296 := n0_; have HB := n1_; have BK298 := n2_; have GW298 := n3_; have GE298 := n4_; clear n0_ n1_ n2_ n3_ n4_; clear hb hbox hg; have hcz59_0 : w58.cell? ⟨gb298, 0, none⟩ = some (.string (⟨#[]⟩ : ByteArray)) := (blk_cell BK298.out 0).trans rfl; have hcz59_1 : w58.cell? ⟨gb298, 1, none⟩ = some (.string (⟨#[]⟩ : ByteArray)) := (blk_cell BK298.out 1).trans rfl; have hcz59_2 : w58.cell? ⟨gb298, 2, none⟩ = some (.int .i64 0) := (blk_cell BK298.out 2).trans rfl; have hcz59_3 : w58.cell? ⟨gb298, 3, none⟩ = some (.string (⟨#[]⟩ : ByteArray)) := (blk_cell BK298.out 3).trans rfl; have hcz59_4 : w58.cell? ⟨gb298, 4, none⟩ = some (.int .i64 0) := (blk_cell BK298.out 4).trans rfl; have hcz59_5 : w58.cell? ⟨gb298, 5, none⟩ = some (.slice none 0 0) := (blk_cell BK298.out 5).trans rfl; have hfz59_0 := blk_frozen BK298.out 0; have hfz59_1 := blk_frozen BK298.out 1; have hfz59_2 := blk_frozen BK298.out 2; have hfz59_3 := blk_frozen BK298.out 3; have hfz59_4 := blk_frozen BK298.out 4; have hfz59_5 := blk_frozen BK298.out 5; obtain ⟨Ao60, co60, eo60⟩ := Kd.R_slice HO296.out; subst eo60) | (go_at_call 9; (refine (lockageref06_Same.calls kj9 t289 t290 t291 t292 t293 _ _ t294 (⟨#[]⟩ : ByteArray) (⟨#[]⟩ : ByteArray) 0 (⟨#[]⟩ : ByteArray) 0 _ _ ([] : List (S46)) t299 _ ?side1 ?side2 ?side3 ?side4 A56.out).mono ?_); (case side1 => refine (Kd.R_reads' (e := 46) (base := w.heap.size) (ok := fun k_ => True) (n := t294.length) (c := co60) ?_).2.2; exact (by (with_reducible repeat (first | apply Kd.R_alloc | apply Kd.R_drewN | apply Kd.R_drew)); exact (Kd.R_mono (Kd.R_far (p := ⟨gb298, 5, none⟩) (Kd.R_far (p := ⟨gb298, 4, none⟩) (Kd.R_far (p := ⟨gb298, 3, none⟩) (Kd.R_far (p := ⟨gb298, 2, none⟩) (Kd.R_far (p := ⟨gb298, 1, none⟩) (Kd.R_far (p := ⟨gb298, 0, none⟩) (Kd.R_types HO296.out BK298.out (by decide)) (fun _ hk => hk.2) (.string t289)) (fun _ hk => hk.2) (.string t290)) (fun _ hk => hk.2) (.int .i64 t291)) (fun _ hk => hk.2) (.string t292)) (fun _ hk => hk.2) (.int .i64 t293)) (fun _ hk => hk.2) (.slice Ao60 t294.length co60)) (fun _ h_ => h_.1)))); (case side2 => exact (Kd.R_reads' HO296.out).2.1); (case side3 => exact Kd.C_nil _ _); (case side4 => exact Nat.le_refl _); rintro e w61 ⟨rfl, hb⟩; have n0_ := Aside0.mk (Kd.R_below (by (with_reducible repeat (first | apply Kd.R_alloc | apply Kd.R_drewN | apply Kd.R_drew)); exact (Kd.R_mono (Kd.R_far (p := ⟨gb298, 5, none⟩) (Kd.R_far (p := ⟨gb298, 4, none⟩) (Kd.R_far (p := ⟨gb298, 3, none⟩) (Kd.R_far (p := ⟨gb298, 2, none⟩) (Kd.R_far (p := ⟨gb298, 1, none⟩) (Kd.R_far (p := ⟨gb298, 0, none⟩) (Kd.R_types HO296.out BK298.out (by decide)) (fun _ hk => hk.2) (.string t289)) (fun _ hk => hk.2) (.string t290)) (fun _ hk => hk.2) (.int .i64 t291)) (fun _ hk => hk.2) (.string t292)) (fun _ hk => hk.2) (.int .i64 t293)) (fun _ hk => hk.2) (.slice Ao60 t294.length co60)) (fun _ h_ => h_.1))) hb); have n1_ := Aside0.mk (blk_below (g := gb298) (o := .cells #[.string t289, .string t290, .int .i64 t291, .string t292, .int .i64 t293, .slice Ao60 t294.length co60] 26 (0, 0)) (by (with_reducible repeat (first | refine blk_drewN ?_ _ | refine blk_drew ?_ | refine blk_alloc ?_ _)); refine blk_put (cs := #[.string t289, .string t290, .int .i64 t291, .string t292, .int .i64 t293, .slice none 0 0]) ?_ 5 _ rfl; (with_reducible repeat (first | refine blk_drewN ?_ _ | refine blk_drew ?_ | refine blk_alloc ?_ _)); refine blk_put (cs := #[.string t289, .string t290, .int .i64 t291, .string t292, .int .i64 0, .slice none 0 0]) ?_ 4 _ rfl; (with_reducible repeat (first | refine blk_drewN ?_ _ | refine blk_drew ?_ | refine blk_alloc ?_ _)); refine blk_put (cs := #[.string t289, .string t290, .int .i64 t291, .string (⟨#[]⟩ : ByteArray), .int .i64 0, .slice none 0 0]) ?_ 3 _ rfl; (with_reducible repeat (first | refine blk_drewN ?_ _ | refine blk_drew ?_ | refine blk_alloc ?_ _)); refine blk_put (cs := #[.string t289, .string t290, .int .i64 0, .string (⟨#[]⟩ : ByteArray), .int .i64 0, .slice none 0 0]) ?_ 2 _ rfl; (with_reducible repeat (first | refine blk_drewN ?_ _ | refine blk_drew ?_ | refine blk_alloc ?_ _)); refine blk_put (cs := #[.string t289, .string (⟨#[]⟩ : ByteArray), .int .i64 0, .string (⟨#[]⟩ : ByteArray), .int .i64 0, .slice none 0 0]) ?_ 1 _ rfl; (with_reducible repeat (first | refine blk_drewN ?_ _ | refine blk_drew ?_ | refine blk_alloc ?_ _)); refine blk_put (cs := #[.string (⟨#[]⟩ : ByteArray), .string (⟨#[]⟩ : ByteArray), .int .i64 0, .string (⟨#[]⟩ : ByteArray), .int .i64 0, .slice none 0 0]) ?_ 0 _ rfl; (with_reducible repeat (first | refine blk_drewN ?_ _ | refine blk_drew ?_ | refine blk_alloc ?_ _)); exact BK298.out) hb); have n2_ := Aside0.mk (below_step (by repeat (first | (with_reducible first | exact HB.out | apply below_alloc | apply pw_below_drewN | apply below_drew1 | refine below_set ?_ GE298.out) | exact HB.out)) hb); clear HO296; clear BK298; clear HB; have HO296 := n0_; have BK298 := n1_; have HB := n2_; clear n0_ n1_ n2_; (try clear hb); (try clear hb2); (try clear hk); (try clear hi)))
              go_ret
              exact ⟨by first | rfl | (simp [errW_none, errW_some] <;> rfl) | (simp [*, errW_none, errW_some] <;> rfl), by repeat (first | (with_reducible first | exact HB.out | apply below_alloc | apply pw_below_drewN | apply below_drew1 | refine below_set ?_ GE298.out) | exact HB.out)⟩
  · replace c6 := Bool.eq_false_iff.mpr c6
    subst c6
    have H1 : (none) = some r := by rw [if_neg (show ¬ (false = true) by decide)] at H; exact H
    clear H
    have H := H1
    clear H1
    exact absurd H (by simp)

/-- THE ONE PURE STATEMENT of lockagelaw06_HeadRight: yours. -/
def lockagelaw06_HeadRight.Pure : Prop := ∀ (a0 : ByteArray) (l1 : List Int) (a2 : Bool) (a3 : Bool), a0.size ≤ 140737488351232 → l1.length ≤ maxLen → l1.length * 1 ≤ 140737488351232 → (∀ x ∈ l1, (Lit.int .u8 x).wf = true) → ∃ k, lockagelaw06_HeadRight.f k a0 l1 a2 a3 = some true

end Go.Proofs.YtemhokkfefidlaaDoor.P
