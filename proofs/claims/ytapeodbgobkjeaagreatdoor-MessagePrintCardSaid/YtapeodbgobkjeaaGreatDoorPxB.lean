/- Several parts together: Printed by a program of the session out of the translation: plain Lean functions, each with the contract that the Go function computes it; Printed by a program of the session out of the translation: plain Lean functions, each with the contract that the Go function computes it. -/
import Derived.Test.YtapeodbgobkjeaaGreatDoorHZM
import Derived.Test.YtapeodbgobkjeaaGreatDoorPx0
import Derived.Test.YtapeodbgobkjeaaGreatDoorPx17
import Derived.Test.YtapeodbgobkjeaaGreatDoorPx20
import Derived.Test.YtapeodbgobkjeaaGreatDoorPxC
namespace Go.Proofs.YtapeodbgobkjeaaGreatDoor.P
open Go.RowKit Go.Proofs.YtapeodbgobkjeaaGreatDoorW.PrintWords Go.Proofs.YtapeodbgobkjeaaGreatDoorW.PrintLast Go.Proofs.YtapeodbgobkjeaaGreatDoorW.PrintMore
attribute [local go_sem] max2_int min2_int max_two min_two max_three min_three max_four min_four   -- for this text's walks alone
set_option linter.unusedVariables false
set_option linter.unusedSimpArgs false

mutual
def lockageref05_Drop.l0 : Nat → List (S40) → List ByteArray → List (S40) → Int → Option ((List (S40)))
 | 0, _, _, _, _ => none
 | k + 1, x0, x1, x5, x6 => if x6 < (x0.length : Int) then (lockageref05_Drop.l1 k x0 x1 x5 x6 true 0) else (some x5)
def lockageref05_Drop.l1 : Nat → List (S40) → List ByteArray → List (S40) → Int → Bool → Int → Option ((List (S40)))
 | 0, _, _, _, _, _, _ => none
 | k + 1, x0, x1, x5, x6, x7, x8 => if x8 < (x1.length : Int) then (if x7 = true then (if 0 ≤ x6 then (if x6 < (x0.length : Int) then ((lockageref05_Lower.f k ((rd_T40 x0 x6).f0)).bind fun t1068 => (if 0 ≤ x8 then ((lockageref05_Lower.f k (rdOf ByteArray.empty x1 x8)).bind fun t1070 => (lockageref05_Drop.l1 k x0 x1 x5 x6 (t1068.toList != t1070.toList) (wrap64 (x8 + 1)))) else (none))) else (none)) else (none)) else (lockageref05_Drop.l1 k x0 x1 x5 x6 false (wrap64 (x8 + 1)))) else (if x7 = true then (if 0 ≤ x6 then (if x6 < (x0.length : Int) then (if x5.length < 4398046511104 then (lockageref05_Drop.l0 k x0 x1 (x5 ++ [(⟨(rd_T40 x0 x6).f0, (rd_T40 x0 x6).f1⟩ : S40)]) (wrap64 (x6 + 1))) else (none)) else (none)) else (none)) else (lockageref05_Drop.l0 k x0 x1 x5 (wrap64 (x6 + 1))))
end
def lockageref05_Drop.f (k : Nat) (l0 : List (S40)) (l1 : List ByteArray) : Option ((List (S40))) := lockageref05_Drop.l0 k l0 l1 ([] : List (S40)) 0
theorem lockageref05_Drop.mono_l : ∀ k, (∀ y0 y1 y2 y3, LeO (lockageref05_Drop.l0 k y0 y1 y2 y3) (lockageref05_Drop.l0 (k + 1) y0 y1 y2 y3)) ∧ (∀ y0 y1 y2 y3 y4 y5, LeO (lockageref05_Drop.l1 k y0 y1 y2 y3 y4 y5) (lockageref05_Drop.l1 (k + 1) y0 y1 y2 y3 y4 y5))
 | 0 => ⟨fun _ _ _ _ r h => by simp [lockageref05_Drop.l0] at h, fun _ _ _ _ _ _ r h => by simp [lockageref05_Drop.l1] at h⟩
 | k + 1 => by
  obtain ⟨ih0, ih1⟩ := lockageref05_Drop.mono_l k
  refine ⟨?_, ?_⟩
  ·intro y0 y1 y2 y3
   unfold lockageref05_Drop.l0; have m0 := @lockageref05_Lower.mono; exact zM
  ·intro y0 y1 y2 y3 y4 y5
   unfold lockageref05_Drop.l1; have m0 := @lockageref05_Lower.mono; exact zM
theorem lockageref05_Drop.mono : ∀ a0 a1 k, LeO (lockageref05_Drop.f k a0 a1) (lockageref05_Drop.f (k + 1) a0 a1) := by
 intro a0 a1 k
 obtain ⟨ih0, ih1⟩ := lockageref05_Drop.mono_l k
 unfold lockageref05_Drop.f; have m0 := @lockageref05_Lower.mono; exact zM
def lockageref05_Drop.T9 : Bool × List (List Nat × List Nat) := (true, [([], []), ([0], [0]), ([1], [1]), ([1], [1]), ([2, 3, 1], [1, 2, 3]), ([4, 1], [1, 4]), ([5, 1], [1, 5]), ([6, 1, 1], [1, 6]), ([1], [1]), ([1], [1]), ([8, 9, 1], [1, 8, 9]), ([10, 1], [1, 10]), ([11, 7, 1], [1, 11]), ([7, 12, 1], [1, 7, 12]), ([1, 13], [1, 13]), ([14, 12, 0, 1, 2, 3, 4, 5, 6, 7, 8, 9, 10, 11, 12, 13, 14], [0, 14])])
def lockageref05_Drop.B9 : List Nat := [0, 1, 3, 3, 15, 31, 63, 127, 3, 3, 771, 1795, 4095, 8191, 16383, 32767]
theorem lockageref05_Drop.tab9 : rtab .any (opsOf Tryz.f24 9) = lockageref05_Drop.T9 := by kernel_rfl
theorem lockageref05_Drop.bits9 : waitsOk lockageref05_Drop.T9.2 lockageref05_Drop.B9 = true := by kernel_rfl
set_option maxHeartbeats 8000000 in
set_option maxRecDepth 100000 in
theorem lockageref05_Drop.calls (k : Nat) (A0 : Option Addr) (c0 : Nat) (l0 : List (S40)) (A1 : Option Addr) (c1 : Nat) (l1 : List ByteArray) (r : List (S40)) (w : World) (hr0 : Kd.C k40 w A0 l0.length l0) (hc0 : l0.length ≤ c0) (hr1 : Kd.C Kd.string w A1 l1.length l1) (hc1 : l1.length ≤ c1) (h : lockageref05_Drop.f k l0 l1 = some r) :
  Calls Tryz.prog 24 #[.slice A0 l0.length c0, .slice A1 l1.length c1] w fun e w' => ∃ v0_ : Value, e = .returned (v0_) ∧ Kd.R k40 40 w' w.heap.size (fun _ => True) v0_ r ∧ Below w.heap.size w w' := by
 have hu40 := Tryz.underlying40; have HR0 := aM hr0; have HC0 := aM hc0; clear hr0 hc0; have HR1 := aM hr1; have HC1 := aM hc1; clear hr1 hc1; have HB := aM (Below.refl w.heap.size w); have H : (lockageref05_Drop.l0 k l0 l1 ([] : List (S40)) 0) = some r := h; clear h; have H' := aM H; clear H
 go_enter Tryz.func24, Tryz.ntmps24
 go_wp2
 go_loopg [5, 6] k (fun kq v5 v6 w' => ∃ (x5_1 : List (S40)) (x6_1 : Int), v6 = .int .i64 x6_1 ∧ Aside0 (lockageref05_Drop.l0 kq l0 l1 x5_1 x6_1 = some r) ∧ Aside0 (kq ≤ k) ∧ Aside0 (Kd.R k40 40 w' w.heap.size (fun _ => True) v5 x5_1) ∧ Aside0 (Below w.heap.size w w'))
 case atStart => exact ⟨(([] : List (S40))), (0), zR, H', ⟨Nat.le_refl _⟩, ⟨by first | exact Kd.R_nil _ _ _ _ _ | exact Kd.N_nil _ _ _ _ _ | exact Kd.V_nil _ _ _ _ _ | exact Kd.Q_nil _ _ _ _ _ | exact Kd.S_nil _ _ _ _ _⟩, ⟨zB⟩⟩
 case round =>
  clear H'; (try clear c1); (try clear c2); (try clear p2); obtain ⟨x5_1, x6_1, rfl, HA, HK1, HO_5, HB⟩ := hrel; cases gk with
  | zero => exact absurd HA.out (by simp [lockageref05_Drop.l0])
  | succ k1 =>
   have H := HA.out; clear HA; simp only [lockageref05_Drop.l0] at H; by_cases c3 : x6_1 < (l0.length : Int)
   ·rw [if_pos c3] at H; have c3b0 := decide_eq_true c3; clear c3; have H' := aM H; clear H
    go_wp2
    go_loopg [7, 8] k1 (fun kq v7 v8 w' => ∃ (x7_2 : Bool) (x8_2 : Int), v7 = .bool x7_2 ∧ v8 = .int .i64 x8_2 ∧ Aside0 (lockageref05_Drop.l1 kq l0 l1 x5_1 x6_1 x7_2 x8_2 = some r) ∧ Aside0 (kq ≤ k1) ∧ Aside0 (Kd.R k40 40 w' w.heap.size (fun _ => True) u5 x5_1) ∧ Aside0 (Below w.heap.size w w'))
    case atStart => exact ⟨(true), (0), zR, zR, H', ⟨Nat.le_refl _⟩, ⟨zO HO_5.out⟩, ⟨zB⟩⟩
    case round =>
     clear H'; (try clear c1); (try clear c2); (try clear p2); (try clear c3); (try clear c3b0); (try clear p2); obtain ⟨x7_2, x8_2, rfl, rfl, HA, HK2, HO_5, HB⟩ := hrel; cases gk with
     | zero => exact absurd HA.out (by simp [lockageref05_Drop.l1])
     | succ k2 =>
      have H := HA.out; clear HA; simp only [lockageref05_Drop.l1] at H; by_cases c4 : x8_2 < (l1.length : Int)
      ·rw [if_pos c4] at H; have c4b0 := decide_eq_true c4; clear c4; by_cases c5 : x7_2 = true
       ·subst c5; rw [if_pos rfl] at H; by_cases c6 : 0 ≤ x6_1
        ·rw [if_pos c6] at H; have c6b0 := decide_eq_true c6; clear c6; by_cases c7 : x6_1 < (l0.length : Int)
         ·rw [if_pos c7] at H; have c7b0 := decide_eq_true c7; clear c7; obtain ⟨t1068, A8, H⟩ := zc H; (try dsimp only at H); by_cases c9 : 0 ≤ x8_2
          ·rw [if_pos c9] at H; have c9b0 := decide_eq_true c9; clear c9; replace H := Option.bind_eq_some_iff.mp H; obtain ⟨t1070, A100, H⟩ := H; replace H : (lockageref05_Drop.l1 k2 l0 l1 x5_1 x6_1 (t1068.toList != t1070.toList) (wrap64 (x8_2 + 1))) = some r := H; have A10 := aM A100; clear A100; have H' := aM H; clear H
           try go_wp2
           replace HO_5 := aM (rD HO_5.out); replace HB := aM (lD HB.out); have p1067 : 0 ≤ (x6_1 : Int) := of_decide_eq_true zA; have q1067 : x6_1 < (l0.length : Int) := of_decide_eq_true zA; obtain ⟨ad1067, e1067, hx1067_0, hx1067_1⟩ := at_T40 HR0.out x6_1 p1067 q1067; have hw1067_1 := hx1067_1; have hw1067_0 := hx1067_0; cases e1067; replace hx1067_0 := (HB.out.cell (World.block_lt_of_cell? w _ hx1067_0)).trans hx1067_0; replace hx1067_1 := (HB.out.cell (World.block_lt_of_cell? w _ hx1067_1)).trans hx1067_1; replace p1067 := eq_true p1067; replace q1067 := eq_true q1067; have p1069 : 0 ≤ (x8_2 : Int) := of_decide_eq_true zA; have q1069 : x8_2 < (l1.length : Int) := of_decide_eq_true zA; obtain ⟨ad1069, e1069, hx1069_0⟩ := Kd.at_string HR1.out x8_2 p1069 q1069; have hw1069_0 := hx1069_0; cases e1069; replace hx1069_0 := (HB.out.cell (World.block_lt_of_cell? w _ hx1069_0)).trans hx1069_0; replace p1069 := eq_true p1069; replace q1069 := eq_true q1069
           refine start_ (n := 16) (S := fun w' => w'.cell? (ad1067.add ((x6_1).toNat * 2)) = some (.string ((rd_T40 l0 x6_1).f0)) ∧ w'.cell? ⟨(ad1067.add ((x6_1).toNat * 2)).block, (ad1067.add ((x6_1).toNat * 2)).off + 1, none⟩ = some (.string ((rd_T40 l0 x6_1).f1)) ∧ w'.cell? (ad1069.add (x8_2).toNat) = some (.string (rdOf ByteArray.empty l1 x8_2))) (ds := []) (dB 16 0) (by kernel_rfl) rfl rfl ⟨((HB.out.cell (World.block_lt_of_cell? w _ hw1067_0)).trans hw1067_0), ((HB.out.cell (World.block_lt_of_cell? w _ hw1067_1)).trans hw1067_1), ((HB.out.cell (World.block_lt_of_cell? w _ hw1069_0)).trans hw1069_0)⟩ (fun hHeld => ?_); refine with_tabW lockageref05_Drop.tab9 lockageref05_Drop.bits9 (fun HT_ HW_ => ?_)
           generalize wr.drew = w11 at HO_5 HB hx1067_0 hx1067_1 hx1069_0 hHeld ⊢
           refine pR 0 21 (dB 16 1) HT_.out ?_
           refine pR 1 22 (dB 16 3) HT_.out ?_
           refine pR 2 23 (dB 16 7) HT_.out ?_
           refine pR 3 24 (dB 16 15) HT_.out ?_
           refine pR 4 25 (dB 16 31) HT_.out ?_
           refine pR 5 26 (dB 16 63) HT_.out ?_
           refine pR 8 29 (dB 16 319) HT_.out ?_
           refine pR 9 30 (dB 16 831) HT_.out ?_
           refine pR 10 31 (dB 16 1855) HT_.out ?_
           refine tR 6 27 (dB 16 1919) HT_.out HW_.out hHeld ?_
           refine tR 11 32 (dB 16 3967) HT_.out HW_.out hHeld ?_
           refine oR 7 28 (dB 16 4095) HT_.out (fun K hK => ?_)
           refine goes_ Tryz.func40 (by kernel_rfl) rfl #[.string ((rd_T40 l0 x6_1).f0)] (by rfl) rfl rfl zL ?_
           with_reducible refine (lockageref05_Lower.calls k2 ((rd_T40 l0 x6_1).f0) t1068 _ A8.out).mono ?_
           rintro e w12 ⟨rfl, hb⟩
           refine ⟨_, rfl, ?_⟩
           replace HO_5 := aM (Kd.R_below (zO HO_5.out) hb); replace HB := aM (below_step zB hb)
           (try clear hb)
           (try clear hb2)
           (try clear hk)
           (try clear hi)
           refine hK.out _ _ ⟨((HB.out.cell (World.block_lt_of_cell? w _ hw1067_0)).trans hw1067_0), ((HB.out.cell (World.block_lt_of_cell? w _ hw1067_1)).trans hw1067_1), ((HB.out.cell (World.block_lt_of_cell? w _ hw1069_0)).trans hw1069_0)⟩ (fun hHeld => ?_)
           clear hK K
           refine norm_ (a' := ?_) ?_ ?_
           rotate_left
           ·show Act.put _ (some 28) _ = _
            exact zP
           refine oR 12 33 (dB 16 8191) HT_.out (fun K hK => ?_)
           refine goes_ Tryz.func40 (by kernel_rfl) rfl #[.string (rdOf ByteArray.empty l1 x8_2)] (by rfl) rfl rfl zL ?_
           with_reducible refine (lockageref05_Lower.calls k2 (rdOf ByteArray.empty l1 x8_2) t1070 _ A10.out).mono ?_
           rintro e w13 ⟨rfl, hb⟩
           refine ⟨_, rfl, ?_⟩
           replace HO_5 := aM (Kd.R_below (zO HO_5.out) hb); replace HB := aM (below_step zB hb)
           (try clear hb)
           (try clear hb2)
           (try clear hk)
           (try clear hi)
           refine hK.out _ _ ⟨((HB.out.cell (World.block_lt_of_cell? w _ hw1067_0)).trans hw1067_0), ((HB.out.cell (World.block_lt_of_cell? w _ hw1067_1)).trans hw1067_1), ((HB.out.cell (World.block_lt_of_cell? w _ hw1069_0)).trans hw1069_0)⟩ (fun hHeld => ?_)
           clear hK K
           refine norm_ (a' := ?_) ?_ ?_
           rotate_left
           ·show Act.put _ (some 33) _ = _
            exact zP
           refine pR 13 34 (dB 16 16383) HT_.out ?_
           refine pR 14 35 (dB 16 32767) HT_.out ?_
           refine pR 15 7 (dB 16 65535) HT_.out ?_
           refine done_ (done_of HT_.out (by kernel_rfl)) ?_
           try go_wp2
           go_roundg k2
           case measure => have := HK1.out; have := HK2.out; omega
           case rel => exact ⟨((t1068.toList != t1070.toList)), (wrap64 (x8_2 + 1)), zR, zR, H', ⟨by have := HK1.out; have := HK2.out; omega⟩, ⟨zO HO_5.out⟩, ⟨zB⟩⟩
          ·exact zf c9 H
         ·exact zf c7 H
        ·exact zf c6 H
       ·replace c5 := Bool.eq_false_iff.mpr c5; subst c5; rw [if_neg (show ¬ (false = true) by decide)] at H; have H' := aM H; clear H
        try go_wp2
        replace HO_5 := aM (rD HO_5.out); replace HB := aM (lD HB.out)
        refine start_ (n := 16) (S := fun w' => True) (ds := []) (dB 16 0) (by kernel_rfl) rfl rfl trivial (fun hHeld => ?_); refine with_tabW lockageref05_Drop.tab9 lockageref05_Drop.bits9 (fun HT_ HW_ => ?_)
        generalize wr.drew = w14 at HO_5 HB hHeld ⊢
        refine pR 0 21 (dB 16 1) HT_.out ?_
        refine pR 1 22 (dB 16 3) HT_.out ?_
        refine pure_ (i := 2) (N := some 23) (v := undef) (a' := ?_) (dB 16 7) rfl rfl (zT HT_.out) (fun _ _ _ h => h) (Or.inr ⟨by rfl, rfl⟩) ?_ ?_
        rotate_left
        ·exact zP
        refine pure_ (i := 3) (N := some 24) (v := undef) (a' := ?_) (dB 16 15) rfl rfl (zT HT_.out) (fun _ _ _ h => h) (Or.inr ⟨by rfl, rfl⟩) ?_ ?_
        rotate_left
        ·exact zP
        refine pure_ (i := 4) (N := some 25) (v := undef) (a' := ?_) (dB 16 31) rfl rfl (zT HT_.out) (fun _ _ _ h => h) (Or.inr ⟨by rfl, rfl⟩) ?_ ?_
        rotate_left
        ·exact zP
        refine pure_ (i := 5) (N := some 26) (v := undef) (a' := ?_) (dB 16 63) rfl rfl (zT HT_.out) (fun _ _ _ h => h) (Or.inr ⟨by rfl, rfl⟩) ?_ ?_
        rotate_left
        ·exact zP
        refine pure_ (i := 6) (N := some 27) (v := undef) (a' := ?_) (dB 16 127) rfl rfl (zT HT_.out) (fun _ _ _ h => h) (Or.inr ⟨by rfl, rfl⟩) ?_ ?_
        rotate_left
        ·exact zP
        refine pure_ (i := 7) (N := some 28) (v := undef) (a' := ?_) (dB 16 255) rfl rfl (zT HT_.out) (fun _ _ _ h => h) (Or.inr ⟨by rfl, rfl⟩) ?_ ?_
        rotate_left
        ·exact zP
        refine pure_ (i := 8) (N := some 29) (v := undef) (a' := ?_) (dB 16 511) rfl rfl (zT HT_.out) (fun _ _ _ h => h) (Or.inr ⟨by rfl, rfl⟩) ?_ ?_
        rotate_left
        ·exact zP
        refine pure_ (i := 9) (N := some 30) (v := undef) (a' := ?_) (dB 16 1023) rfl rfl (zT HT_.out) (fun _ _ _ h => h) (Or.inr ⟨by rfl, rfl⟩) ?_ ?_
        rotate_left
        ·exact zP
        refine pure_ (i := 10) (N := some 31) (v := undef) (a' := ?_) (dB 16 2047) rfl rfl (zT HT_.out) (fun _ _ _ h => h) (Or.inr ⟨by rfl, rfl⟩) ?_ ?_
        rotate_left
        ·exact zP
        refine pure_ (i := 11) (N := some 32) (v := undef) (a' := ?_) (dB 16 4095) rfl rfl (zT HT_.out) (fun _ _ _ h => h) (Or.inr ⟨by rfl, rfl⟩) ?_ ?_
        rotate_left
        ·exact zP
        refine pure_ (i := 12) (N := some 33) (v := undef) (a' := ?_) (dB 16 8191) rfl rfl (zT HT_.out) (fun _ _ _ h => h) (Or.inr ⟨by rfl, rfl⟩) ?_ ?_
        rotate_left
        ·exact zP
        refine pure_ (i := 13) (N := some 34) (v := undef) (a' := ?_) (dB 16 16383) rfl rfl (zT HT_.out) (fun _ _ _ h => h) (Or.inr ⟨by rfl, rfl⟩) ?_ ?_
        rotate_left
        ·exact zP
        refine pR 14 35 (dB 16 32767) HT_.out ?_
        refine pR 15 7 (dB 16 65535) HT_.out ?_
        refine done_ (done_of HT_.out (by kernel_rfl)) ?_
        try go_wp2
        go_roundg k2
        case measure => have := HK1.out; have := HK2.out; omega
        case rel => exact ⟨(false), (wrap64 (x8_2 + 1)), zR, zR, H', ⟨by have := HK1.out; have := HK2.out; omega⟩, ⟨zO HO_5.out⟩, ⟨zB⟩⟩
      ·rw [if_neg c4] at H; have c4b0 := decide_eq_false c4; clear c4; by_cases c15 : x7_2 = true
       ·subst c15; rw [if_pos rfl] at H; by_cases c16 : 0 ≤ x6_1
        ·rw [if_pos c16] at H; have c16b0 := decide_eq_true c16; clear c16; by_cases c17 : x6_1 < (l0.length : Int)
         ·rw [if_pos c17] at H; have c17b0 := decide_eq_true c17; clear c17; by_cases c18 : x5_1.length < 4398046511104
          ·rw [if_pos c18] at H; have LMc18 := aM c18; clear c18; obtain ⟨y1072, hy1072⟩ : ∃ y_ : List (S40), y_ = (x5_1 ++ [(⟨(rd_T40 l0 x6_1).f0, (rd_T40 l0 x6_1).f1⟩ : S40)]) := ⟨_, rfl⟩; (replace H : (lockageref05_Drop.l0 k2 l0 l1 y1072 (wrap64 (x6_1 + 1))) = some r := zN hy1072 H); have Ny1072 := aM hy1072; clear hy1072; have H' := aM H; clear H; have p1071 : 0 ≤ (x6_1 : Int) := of_decide_eq_true zA; have q1071 : x6_1 < (l0.length : Int) := of_decide_eq_true zA; obtain ⟨ad1071, e1071, hx1071_0, hx1071_1⟩ := at_T40 HR0.out x6_1 p1071 q1071; cases e1071; replace hx1071_0 := (HB.out.cell (World.block_lt_of_cell? w _ hx1071_0)).trans hx1071_0; replace hx1071_1 := (HB.out.cell (World.block_lt_of_cell? w _ hx1071_1)).trans hx1071_1; replace p1071 := eq_true p1071; replace q1071 := eq_true q1071
           go_wp2_with (first | ((with_reducible refine gate_builtin (b := .append) (xs := #[.tmp 37, .tmp 42]) rfl ?_); at_builtin; refine Kd.R_append k40 (w0 := w) w.heap.size rfl (.tmp 37) (.tmp 42) 27 40 (.agg #[(.string ⟨#[]⟩), (.string ⟨#[]⟩)]) 32 rfl Tryz.underlying27 info40 rfl (by decide) (by omega) u5 x5_1 (⟨(rd_T40 l0 x6_1).f0, (rd_T40 l0 x6_1).f1⟩ : S40) [.string ((rd_T40 l0 x6_1).f0), .string ((rd_T40 l0 x6_1).f1)] (fun _ => True) (fun _ => False) rfl rfl ?aP (fun _ hk => hk.elim) ?aF ?aO ?aB ?aS ?aL ?_; (case aP => exact k40_mkM _ _ _ (⟨(rd_T40 l0 x6_1).f0, (rd_T40 l0 x6_1).f1⟩ : S40)); (case aB => exact zB); (case aF => exact (fun _ _ => trivial)); (case aO => exact zO HO_5.out); (case aS => exact (below_size zB)); (case aL => have := LMc18.out; omega); intro v1073 w19 ho hb hg hat; rw [← Ny1072.out] at ho; replace HB := aM hb; have HO1074 := aM ho; clear HO_5; clear ho hb hg hat))
           go_roundg k2
           case measure => have := HK1.out; have := HK2.out; omega
           case rel => exact ⟨(y1072), (wrap64 (x6_1 + 1)), zR, H', ⟨by have := HK1.out; have := HK2.out; omega⟩, ⟨zO HO1074.out⟩, ⟨zB⟩⟩
          ·exact zf c18 H
         ·exact zf c17 H
        ·exact zf c16 H
       ·replace c15 := Bool.eq_false_iff.mpr c15; subst c15; rw [if_neg (show ¬ (false = true) by decide)] at H; have H' := aM H; clear H
        go_wp2
        go_roundg k2
        case measure => have := HK1.out; have := HK2.out; omega
        case rel => exact ⟨(x5_1), (wrap64 (x6_1 + 1)), zR, H', ⟨by have := HK1.out; have := HK2.out; omega⟩, ⟨zO HO_5.out⟩, ⟨zB⟩⟩
   ·rw [if_neg c3] at H; have c3b0 := decide_eq_false c3; clear c3; obtain rfl := Option.some.inj H
    go_wp2
    go_ret
    exact ⟨_, zE, zO HO_5.out, zB⟩

mutual
def lockageref03_Text.j0 : Nat → Int → Int → Bool → Option (ByteArray)
 | 0, _, _, _ => none
 | k + 1, x0, x1, x16 => if x16 = true then (some (⟨#[]⟩ : ByteArray)) else (if x1 = 0 then (none) else (if 0 ≤ (Int.tmod x0 x1) then (if (Int.tmod x0 x1) ≤ (wrap64 ((Int.tmod x0 x1) + 1)) then (if (wrap64 ((Int.tmod x0 x1) + 1)) ≤ 16 then (if x0 < x1 then (some ((⟨#[48, 49, 50, 51, 52, 53, 54, 55, 56, 57, 97, 98, 99, 100, 101, 102]⟩ : ByteArray).extract ((Int.tmod x0 x1) : Int).toNat ((wrap64 ((Int.tmod x0 x1) + 1)) : Int).toNat)) else ((lockageref03_Text.f k (wrap64 (Int.tdiv x0 x1)) x1).bind fun t1076 => (if t1076.size + ((⟨#[48, 49, 50, 51, 52, 53, 54, 55, 56, 57, 97, 98, 99, 100, 101, 102]⟩ : ByteArray).extract ((Int.tmod x0 x1) : Int).toNat ((wrap64 ((Int.tmod x0 x1) + 1)) : Int).toNat).size ≤ 9223372036854775807 then (some (t1076 ++ ((⟨#[48, 49, 50, 51, 52, 53, 54, 55, 56, 57, 97, 98, 99, 100, 101, 102]⟩ : ByteArray).extract ((Int.tmod x0 x1) : Int).toNat ((wrap64 ((Int.tmod x0 x1) + 1)) : Int).toNat))) else (none)))) else (none)) else (none)) else (none)))
def lockageref03_Text.f : Nat → Int → Int → Option (ByteArray)
 | 0, _, _ => none
 | k + 1, a0, a1 => (lockageref03_Fits.f a0).bind fun t1075 => (if t1075 = true then (if a1 = 10 then (lockageref03_Text.j0 k a0 a1 false) else (lockageref03_Text.j0 k a0 a1 (a1 != 16))) else (lockageref03_Text.j0 k a0 a1 true))
end
theorem lockageref03_Text.mono_l : ∀ k, (∀ y0 y1, LeO (lockageref03_Text.f k y0 y1) (lockageref03_Text.f (k + 1) y0 y1)) ∧ (∀ y0 y1 y2, LeO (lockageref03_Text.j0 k y0 y1 y2) (lockageref03_Text.j0 (k + 1) y0 y1 y2))
 | 0 => ⟨fun _ _ r h => by simp [lockageref03_Text.f] at h, fun _ _ _ r h => by simp [lockageref03_Text.j0] at h⟩
 | k + 1 => by
  obtain ⟨ih0, ih1⟩ := lockageref03_Text.mono_l k
  refine ⟨?_, ?_⟩
  ·intro y0 y1
   unfold lockageref03_Text.f; exact zM
  ·intro y0 y1 y2
   unfold lockageref03_Text.j0; exact zM
theorem lockageref03_Text.mono : ∀ a0 a1 k, LeO (lockageref03_Text.f k a0 a1) (lockageref03_Text.f (k + 1) a0 a1) := by
 intro a0 a1 k
 obtain ⟨ih0, ih1⟩ := lockageref03_Text.mono_l k
 exact ih0 a0 a1
set_option maxHeartbeats 8000000 in
set_option maxRecDepth 100000 in
theorem lockageref03_Text.calls (k : Nat) : ∀ (a0 : Int) (a1 : Int) (r : ByteArray) (w : World) (h : lockageref03_Text.f k a0 a1 = some r),
  Calls Tryz.prog 36 #[.int .i64 a0, .int .i64 a1] w fun e w' => e = .returned (.string r) ∧ Drawn0 w w' := by
 induction k using Nat.strongRecOn with
 | _ k ih =>
 intro a0 a1 r w h; cases k with
 | zero => exact absurd h (by simp [lockageref03_Text.f])
 | succ k =>
 simp only [lockageref03_Text.f] at h; have H := h; unfold lockageref03_Text.f at H; clear h; have HC3 := aM H; clear H
 go_enter Tryz.func36, Tryz.ntmps36
 go_upto_region 1 with (fail)
 repeat (go_quiet (fail); go_upto_region 1 with (fail))
 go_cut [16] (fun v16 wc => ∃ (kq : Nat) (x16_2 : Bool), v16 = .bool x16_2 ∧ Aside0 (lockageref03_Text.j0 kq a0 a1 x16_2 = some r) ∧ Aside0 (kq ≤ k) ∧ Drawn0 w wc)
 case first =>
  have H := HC3.out; clear HC3; replace H := Option.bind_eq_some_iff.mp H; obtain ⟨t1075, A40, H⟩ := H; replace H : (if t1075 = true then (if a1 = 10 then (lockageref03_Text.j0 k a0 a1 false) else (lockageref03_Text.j0 k a0 a1 (a1 != 16))) else (lockageref03_Text.j0 k a0 a1 true)) = some r := H; have A4 := aM A40; clear A40; by_cases c5 : t1075 = true
  ·subst c5; rw [if_pos rfl] at H; by_cases c6 : a1 = 10
   ·rw [if_pos c6] at H; obtain ⟨c6b0, c6b1⟩ := zd c6; clear c6
    (first | rw [c6b0] | (simp only [i64_w, i32_w]; rw [c6b0]) | skip)
    have H' := aM H; clear H
    go_wp2_with (first | (go_at_call 59; (with_reducible refine (lockageref03_Fits.calls a0 true _ A4.out).mono ?_); rintro e w' ⟨rfl, ⟨nd, rfl⟩⟩; (try first | exact ⟨rfl, _, World.drewN_drewN _ _ _⟩ | exact ⟨rfl, _, Eq.trans (World.drewN_drewN _ _ _) (congrArg (World.drewN _) (Nat.add_assoc _ _ _))⟩)))
    repeat (go_quiet (first | (go_at_call 59; (with_reducible refine (lockageref03_Fits.calls a0 true _ A4.out).mono ?_); rintro e w' ⟨rfl, ⟨nd, rfl⟩⟩; (try first | exact ⟨rfl, _, World.drewN_drewN _ _ _⟩ | exact ⟨rfl, _, Eq.trans (World.drewN_drewN _ _ _) (congrArg (World.drewN _) (Nat.add_assoc _ _ _))⟩))); try go_wp2_with (first | (go_at_call 59; (with_reducible refine (lockageref03_Fits.calls a0 true _ A4.out).mono ?_); rintro e w' ⟨rfl, ⟨nd, rfl⟩⟩; (try first | exact ⟨rfl, _, World.drewN_drewN _ _ _⟩ | exact ⟨rfl, _, Eq.trans (World.drewN_drewN _ _ _) (congrArg (World.drewN _) (Nat.add_assoc _ _ _))⟩))))
    go_meet
    case rel => exact ⟨_, (false), zR, H', ⟨by first | omega | exact Nat.le_refl _⟩, zD⟩
   ·rw [if_neg c6] at H; obtain ⟨c6b0, c6b1⟩ := ze c6
    (first | rw [c6b0] | (simp only [i64_w, i32_w]; rw [c6b0]) | skip)
    have H' := aM H; clear H
    go_wp2_with (first | (go_at_call 59; (with_reducible refine (lockageref03_Fits.calls a0 true _ A4.out).mono ?_); rintro e w' ⟨rfl, ⟨nd, rfl⟩⟩; (try first | exact ⟨rfl, _, World.drewN_drewN _ _ _⟩ | exact ⟨rfl, _, Eq.trans (World.drewN_drewN _ _ _) (congrArg (World.drewN _) (Nat.add_assoc _ _ _))⟩)))
    repeat (go_quiet (first | (go_at_call 59; (with_reducible refine (lockageref03_Fits.calls a0 true _ A4.out).mono ?_); rintro e w' ⟨rfl, ⟨nd, rfl⟩⟩; (try first | exact ⟨rfl, _, World.drewN_drewN _ _ _⟩ | exact ⟨rfl, _, Eq.trans (World.drewN_drewN _ _ _) (congrArg (World.drewN _) (Nat.add_assoc _ _ _))⟩))); try go_wp2_with (first | (go_at_call 59; (with_reducible refine (lockageref03_Fits.calls a0 true _ A4.out).mono ?_); rintro e w' ⟨rfl, ⟨nd, rfl⟩⟩; (try first | exact ⟨rfl, _, World.drewN_drewN _ _ _⟩ | exact ⟨rfl, _, Eq.trans (World.drewN_drewN _ _ _) (congrArg (World.drewN _) (Nat.add_assoc _ _ _))⟩))))
    go_meet
    case rel => exact ⟨_, ((a1 != 16)), zR, H', ⟨by first | omega | exact Nat.le_refl _⟩, zD⟩
  ·replace c5 := Bool.eq_false_iff.mpr c5; subst c5; rw [if_neg (show ¬ (false = true) by decide)] at H; have H' := aM H; clear H
   go_wp2_with (first | (go_at_call 59; (with_reducible refine (lockageref03_Fits.calls a0 false _ A4.out).mono ?_); rintro e w' ⟨rfl, ⟨nd, rfl⟩⟩; (try first | exact ⟨rfl, _, World.drewN_drewN _ _ _⟩ | exact ⟨rfl, _, Eq.trans (World.drewN_drewN _ _ _) (congrArg (World.drewN _) (Nat.add_assoc _ _ _))⟩)))
   repeat (go_quiet (first | (go_at_call 59; (with_reducible refine (lockageref03_Fits.calls a0 false _ A4.out).mono ?_); rintro e w' ⟨rfl, ⟨nd, rfl⟩⟩; (try first | exact ⟨rfl, _, World.drewN_drewN _ _ _⟩ | exact ⟨rfl, _, Eq.trans (World.drewN_drewN _ _ _) (congrArg (World.drewN _) (Nat.add_assoc _ _ _))⟩))); try go_wp2_with (first | (go_at_call 59; (with_reducible refine (lockageref03_Fits.calls a0 false _ A4.out).mono ?_); rintro e w' ⟨rfl, ⟨nd, rfl⟩⟩; (try first | exact ⟨rfl, _, World.drewN_drewN _ _ _⟩ | exact ⟨rfl, _, Eq.trans (World.drewN_drewN _ _ _) (congrArg (World.drewN _) (Nat.add_assoc _ _ _))⟩))))
   go_meet
   case rel => exact ⟨_, (true), zR, H', ⟨by first | omega | exact Nat.le_refl _⟩, zD⟩
 case rest =>
  clear HC3; (try clear p2); (try clear c3); (try clear c5); (try clear c6); (try clear c6b0); (try clear c6b1); obtain ⟨kq, x16_2, rfl, HA, HJ2, ⟨mc2, rfl⟩⟩ := hcut; cases kq with
  | zero => exact absurd HA.out (by simp [lockageref03_Text.j0])
  | succ kj2 =>
   have H := HA.out; clear HA; simp only [lockageref03_Text.j0] at H; by_cases c7 : x16_2 = true
   ·subst c7; rw [if_pos rfl] at H; obtain rfl := Option.some.inj H
    go_wp2
    repeat (go_quiet (fail); try go_wp2)
    go_ret
    exact ⟨zR, zD⟩
   ·replace c7 := Bool.eq_false_iff.mpr c7; subst c7; rw [if_neg (show ¬ (false = true) by decide)] at H; by_cases c8 : a1 = 0
    ·rw [if_pos c8] at H; exact absurd H (by simp)
    ·rw [if_neg c8] at H; obtain ⟨c8b0, c8b1⟩ := ze c8; obtain ⟨ji9, hji9⟩ : ∃ j_ : Int, (Int.tmod a0 a1) = j_ := ⟨_, rfl⟩
     (first | rw [hji9] at H | simp only [hji9] at H)
     by_cases c10 : 0 ≤ (ji9)
     ·rw [if_pos c10] at H; have c10b0 := eq_true c10; have c10b1 := decide_eq_true c10; clear c10; by_cases c11 : (ji9) ≤ (wrap64 ((ji9) + 1))
      ·rw [if_pos c11] at H; have c11b0 := eq_true c11; have c11b1 := decide_eq_true c11; by_cases c12 : (wrap64 ((ji9) + 1)) ≤ 16
       ·rw [if_pos c12] at H; have c12b0 := eq_true c12; have c12b1 := decide_eq_true c12; by_cases c13 : a0 < a1
        ·rw [if_pos c13] at H; have c13b0 := decide_eq_true c13; clear c13; obtain rfl := Option.some.inj H
         go_wp2
         repeat (go_quiet (fail); try go_wp2)
         go_ret
         exact ⟨zJ hji9, zD⟩
        ·rw [if_neg c13] at H; have c13b0 := decide_eq_false c13; clear c13; obtain ⟨t1076, A14, H⟩ := zc H; (try dsimp only at H); by_cases c15 : t1076.size + ((⟨#[48, 49, 50, 51, 52, 53, 54, 55, 56, 57, 97, 98, 99, 100, 101, 102]⟩ : ByteArray).extract ((ji9) : Int).toNat ((wrap64 ((ji9) + 1)) : Int).toNat).size ≤ 9223372036854775807
         ·rw [if_pos c15] at H; have c15b0 := eq_true c15; have c15b1 := decide_eq_true c15
          try have c15b2 : (9223372036854775807 < t1076.size + ((⟨#[48, 49, 50, 51, 52, 53, 54, 55, 56, 57, 97, 98, 99, 100, 101, 102]⟩ : ByteArray).extract ((ji9) : Int).toNat ((wrap64 ((ji9) + 1)) : Int).toNat).size) = False := eq_false (Nat.not_lt.2 c15)
          obtain rfl := Option.some.inj H
          go_wp2_with (first | (go_at_call 36; (with_reducible refine (ih kj2 (by have := HJ2.out; omega) (wrap64 (Int.tdiv a0 a1)) a1 t1076 _ A14.out).mono ?_); rintro e w' ⟨rfl, ⟨nd, rfl⟩⟩; (try first | exact ⟨rfl, _, World.drewN_drewN _ _ _⟩ | exact ⟨rfl, _, Eq.trans (World.drewN_drewN _ _ _) (congrArg (World.drewN _) (Nat.add_assoc _ _ _))⟩)))
          repeat (go_quiet (first | (go_at_call 36; (with_reducible refine (ih kj2 (by have := HJ2.out; omega) (wrap64 (Int.tdiv a0 a1)) a1 t1076 _ A14.out).mono ?_); rintro e w' ⟨rfl, ⟨nd, rfl⟩⟩; (try first | exact ⟨rfl, _, World.drewN_drewN _ _ _⟩ | exact ⟨rfl, _, Eq.trans (World.drewN_drewN _ _ _) (congrArg (World.drewN _) (Nat.add_assoc _ _ _))⟩))); try go_wp2_with (first | (go_at_call 36; (with_reducible refine (ih kj2 (by have := HJ2.out; omega) (wrap64 (Int.tdiv a0 a1)) a1 t1076 _ A14.out).mono ?_); rintro e w' ⟨rfl, ⟨nd, rfl⟩⟩; (try first | exact ⟨rfl, _, World.drewN_drewN _ _ _⟩ | exact ⟨rfl, _, Eq.trans (World.drewN_drewN _ _ _) (congrArg (World.drewN _) (Nat.add_assoc _ _ _))⟩))))
          go_ret
          exact ⟨zJ hji9, zD⟩
         ·exact zf c15 H
       ·exact zf c12 H
      ·exact zf c11 H
     ·exact zf c10 H

end Go.Proofs.YtapeodbgobkjeaaGreatDoor.P
namespace Go.Proofs.YtapeodbgobkjeaaGreatDoor.P
open Go.RowKit Go.Proofs.YtapeodbgobkjeaaGreatDoorW.PrintWords Go.Proofs.YtapeodbgobkjeaaGreatDoorW.PrintLast Go.Proofs.YtapeodbgobkjeaaGreatDoorW.PrintMore
attribute [local go_sem] max2_int min2_int max_two min_two max_three min_three max_four min_four   -- for this text's walks alone
set_option linter.unusedVariables false
set_option linter.unusedSimpArgs false

mutual
def lockageref06_Text.j0 : Nat → ByteArray → ByteArray → ByteArray → Int → ByteArray → Int → List (S40) → Option (ByteArray)
 | 0, _, _, _, _, _, _, _ => none
 | k + 1, x6, x1078000, x1078001, x1078002, x1078003, x1078004, x1078005 => lockageref06_Text.l0 k x6 0 x1078000 x1078001 x1078002 x1078003 x1078004 x1078005
def lockageref06_Text.l0 : Nat → ByteArray → Int → ByteArray → ByteArray → Int → ByteArray → Int → List (S40) → Option (ByteArray)
 | 0, _, _, _, _, _, _, _, _ => none
 | k + 1, x6, x7, x1078000, x1078001, x1078002, x1078003, x1078004, x1078005 => if x7 < (x1078005.length : Int) then (if 0 ≤ x7 then (if x6.size + ((rd_T40 x1078005 x7).f0).size ≤ 9223372036854775807 then (if (x6 ++ ((rd_T40 x1078005 x7).f0)).size + 2 ≤ 9223372036854775807 then (if ((x6 ++ ((rd_T40 x1078005 x7).f0)) ++ (⟨#[58, 32]⟩ : ByteArray)).size + ((rd_T40 x1078005 x7).f1).size ≤ 9223372036854775807 then (if (((x6 ++ ((rd_T40 x1078005 x7).f0)) ++ (⟨#[58, 32]⟩ : ByteArray)) ++ ((rd_T40 x1078005 x7).f1)).size + 2 ≤ 9223372036854775807 then (lockageref06_Text.l0 k ((((x6 ++ ((rd_T40 x1078005 x7).f0)) ++ (⟨#[58, 32]⟩ : ByteArray)) ++ ((rd_T40 x1078005 x7).f1)) ++ (⟨#[13, 10]⟩ : ByteArray)) (wrap64 (x7 + 1)) x1078000 x1078001 x1078002 x1078003 x1078004 x1078005) else (none)) else (none)) else (none)) else (none)) else (none)) else (if x6.size + 2 ≤ 9223372036854775807 then (some (x6 ++ (⟨#[13, 10]⟩ : ByteArray))) else (none))
end
def lockageref06_Text.f (k : Nat) (a0_0 : ByteArray) (a0_1 : ByteArray) (a0_2 : Int) (a0_3 : ByteArray) (a0_4 : Int) (l0_5 : List (S40)) (a1 : Bool) : Option (ByteArray) := (lockageref03_Text.f k a0_4 10).bind fun t1078 => (if 7 + t1078.size ≤ 9223372036854775807 then (if a0_0.size + 1 ≤ 9223372036854775807 then (if (a0_0 ++ (⟨#[32]⟩ : ByteArray)).size + a0_1.size ≤ 9223372036854775807 then (if ((a0_0 ++ (⟨#[32]⟩ : ByteArray)) ++ a0_1).size + 1 ≤ 9223372036854775807 then (if (((a0_0 ++ (⟨#[32]⟩ : ByteArray)) ++ a0_1) ++ (⟨#[32]⟩ : ByteArray)).size + ((⟨#[72, 84, 84, 80, 47, 49, 46]⟩ : ByteArray) ++ t1078).size ≤ 9223372036854775807 then (if ((((a0_0 ++ (⟨#[32]⟩ : ByteArray)) ++ a0_1) ++ (⟨#[32]⟩ : ByteArray)) ++ ((⟨#[72, 84, 84, 80, 47, 49, 46]⟩ : ByteArray) ++ t1078)).size + 2 ≤ 9223372036854775807 then (if a1 = true then (if ((⟨#[72, 84, 84, 80, 47, 49, 46]⟩ : ByteArray) ++ t1078).size + 1 ≤ 9223372036854775807 then ((lockageref03_Text.f k a0_2 10).bind fun t1079 => (if (((⟨#[72, 84, 84, 80, 47, 49, 46]⟩ : ByteArray) ++ t1078) ++ (⟨#[32]⟩ : ByteArray)).size + t1079.size ≤ 9223372036854775807 then (if ((((⟨#[72, 84, 84, 80, 47, 49, 46]⟩ : ByteArray) ++ t1078) ++ (⟨#[32]⟩ : ByteArray)) ++ t1079).size + 1 ≤ 9223372036854775807 then (if (((((⟨#[72, 84, 84, 80, 47, 49, 46]⟩ : ByteArray) ++ t1078) ++ (⟨#[32]⟩ : ByteArray)) ++ t1079) ++ (⟨#[32]⟩ : ByteArray)).size + a0_3.size ≤ 9223372036854775807 then (if ((((((⟨#[72, 84, 84, 80, 47, 49, 46]⟩ : ByteArray) ++ t1078) ++ (⟨#[32]⟩ : ByteArray)) ++ t1079) ++ (⟨#[32]⟩ : ByteArray)) ++ a0_3).size + 2 ≤ 9223372036854775807 then (lockageref06_Text.j0 k (((((((⟨#[72, 84, 84, 80, 47, 49, 46]⟩ : ByteArray) ++ t1078) ++ (⟨#[32]⟩ : ByteArray)) ++ t1079) ++ (⟨#[32]⟩ : ByteArray)) ++ a0_3) ++ (⟨#[13, 10]⟩ : ByteArray)) a0_0 a0_1 a0_2 a0_3 a0_4 l0_5) else (none)) else (none)) else (none)) else (none))) else (none)) else (lockageref06_Text.j0 k (((((a0_0 ++ (⟨#[32]⟩ : ByteArray)) ++ a0_1) ++ (⟨#[32]⟩ : ByteArray)) ++ ((⟨#[72, 84, 84, 80, 47, 49, 46]⟩ : ByteArray) ++ t1078)) ++ (⟨#[13, 10]⟩ : ByteArray)) a0_0 a0_1 a0_2 a0_3 a0_4 l0_5)) else (none)) else (none)) else (none)) else (none)) else (none)) else (none))
theorem lockageref06_Text.mono_l : ∀ k, (∀ y0 y1 y2 y3 y4 y5 y6, LeO (lockageref06_Text.j0 k y0 y1 y2 y3 y4 y5 y6) (lockageref06_Text.j0 (k + 1) y0 y1 y2 y3 y4 y5 y6)) ∧ (∀ y0 y1 y2 y3 y4 y5 y6 y7, LeO (lockageref06_Text.l0 k y0 y1 y2 y3 y4 y5 y6 y7) (lockageref06_Text.l0 (k + 1) y0 y1 y2 y3 y4 y5 y6 y7))
 | 0 => ⟨fun _ _ _ _ _ _ _ r h => by simp [lockageref06_Text.j0] at h, fun _ _ _ _ _ _ _ _ r h => by simp [lockageref06_Text.l0] at h⟩
 | k + 1 => by
  obtain ⟨ih0, ih1⟩ := lockageref06_Text.mono_l k
  refine ⟨?_, ?_⟩
  ·intro y0 y1 y2 y3 y4 y5 y6
   unfold lockageref06_Text.j0; have m0 := @lockageref03_Text.mono; exact zM
  ·intro y0 y1 y2 y3 y4 y5 y6 y7
   unfold lockageref06_Text.l0; have m0 := @lockageref03_Text.mono; exact zM
theorem lockageref06_Text.mono : ∀ a0 a1 a2 a3 a4 a5 a6 k, LeO (lockageref06_Text.f k a0 a1 a2 a3 a4 a5 a6) (lockageref06_Text.f (k + 1) a0 a1 a2 a3 a4 a5 a6) := by
 intro a0 a1 a2 a3 a4 a5 a6 k
 obtain ⟨ih0, ih1⟩ := lockageref06_Text.mono_l k
 unfold lockageref06_Text.f; have m0 := @lockageref03_Text.mono; exact zM
set_option maxHeartbeats 8000000 in
set_option maxRecDepth 100000 in
theorem lockageref06_Text.calls (k : Nat) (a0_0 : ByteArray) (a0_1 : ByteArray) (a0_2 : Int) (a0_3 : ByteArray) (a0_4 : Int) (A0_5 : Option Addr) (c0_5 : Nat) (l0_5 : List (S40)) (a1 : Bool) (r : ByteArray) (w : World) (hr0_5 : Kd.C k40 w A0_5 l0_5.length l0_5) (hc0_5 : l0_5.length ≤ c0_5) (h : lockageref06_Text.f k a0_0 a0_1 a0_2 a0_3 a0_4 l0_5 a1 = some r) :
  Calls Tryz.prog 60 #[.agg #[.string a0_0, .string a0_1, .int .i64 a0_2, .string a0_3, .int .i64 a0_4, .slice A0_5 l0_5.length c0_5], .bool a1] w fun e w' => e = .returned (.string r) ∧ Below w.heap.size w w' := by
 have hu29 := Tryz.underlying29; have HR0_5 := aM hr0_5; have HC0_5 := aM hc0_5; clear hr0_5 hc0_5; have HB := aM (Below.refl w.heap.size w); have H := h; unfold lockageref06_Text.f at H; clear h; obtain ⟨t1078, A3, H⟩ := zc H; (try dsimp only at H); by_cases c4 : 7 + t1078.size ≤ 9223372036854775807
 ·rw [if_pos c4] at H; have c4b0 := eq_true c4; have c4b1 := decide_eq_true c4
  try have c4b2 : (9223372036854775807 < 7 + t1078.size) = False := eq_false (Nat.not_lt.2 c4)
  by_cases c5 : a0_0.size + 1 ≤ 9223372036854775807
  ·rw [if_pos c5] at H; have c5b0 := eq_true c5; have c5b1 := decide_eq_true c5
   try have c5b2 : (9223372036854775807 < a0_0.size + 1) = False := eq_false (Nat.not_lt.2 c5)
   by_cases c6 : (a0_0 ++ (⟨#[32]⟩ : ByteArray)).size + a0_1.size ≤ 9223372036854775807
   ·rw [if_pos c6] at H; have c6b0 := eq_true c6; have c6b1 := decide_eq_true c6
    try have c6b2 : (9223372036854775807 < (a0_0 ++ (⟨#[32]⟩ : ByteArray)).size + a0_1.size) = False := eq_false (Nat.not_lt.2 c6)
    try have c6b9 : (9223372036854775807 < a0_0.size + 1 + a0_1.size) = False := eq_false (Nat.not_lt.2 (by have z_ := c6; simp only [ByteArray.size_append] at z_; exact z_))
    try have c6b3 : (9223372036854775807 < a0_0.size + 1 + a0_1.size) = False := eq_false (Nat.not_lt.2 (by have z_ := c6; rw [ByteArray.size_append] at z_; exact z_))
    by_cases c7 : ((a0_0 ++ (⟨#[32]⟩ : ByteArray)) ++ a0_1).size + 1 ≤ 9223372036854775807
    ·rw [if_pos c7] at H; have c7b0 := eq_true c7; have c7b1 := decide_eq_true c7
     try have c7b2 : (9223372036854775807 < ((a0_0 ++ (⟨#[32]⟩ : ByteArray)) ++ a0_1).size + 1) = False := eq_false (Nat.not_lt.2 c7)
     try have c7b9 : (9223372036854775807 < a0_0.size + 1 + a0_1.size + 1) = False := eq_false (Nat.not_lt.2 (by have z_ := c7; simp only [ByteArray.size_append] at z_; exact z_))
     by_cases c8 : (((a0_0 ++ (⟨#[32]⟩ : ByteArray)) ++ a0_1) ++ (⟨#[32]⟩ : ByteArray)).size + ((⟨#[72, 84, 84, 80, 47, 49, 46]⟩ : ByteArray) ++ t1078).size ≤ 9223372036854775807
     ·rw [if_pos c8] at H; have c8b0 := eq_true c8; have c8b1 := decide_eq_true c8
      try have c8b2 : (9223372036854775807 < (((a0_0 ++ (⟨#[32]⟩ : ByteArray)) ++ a0_1) ++ (⟨#[32]⟩ : ByteArray)).size + ((⟨#[72, 84, 84, 80, 47, 49, 46]⟩ : ByteArray) ++ t1078).size) = False := eq_false (Nat.not_lt.2 c8)
      try have c8b9 : (9223372036854775807 < a0_0.size + 1 + a0_1.size + 1 + (7 + t1078.size)) = False := eq_false (Nat.not_lt.2 (by have z_ := c8; simp only [ByteArray.size_append] at z_; exact z_))
      by_cases c9 : ((((a0_0 ++ (⟨#[32]⟩ : ByteArray)) ++ a0_1) ++ (⟨#[32]⟩ : ByteArray)) ++ ((⟨#[72, 84, 84, 80, 47, 49, 46]⟩ : ByteArray) ++ t1078)).size + 2 ≤ 9223372036854775807
      ·rw [if_pos c9] at H; have c9b0 := eq_true c9; have c9b1 := decide_eq_true c9
       try have c9b2 : (9223372036854775807 < ((((a0_0 ++ (⟨#[32]⟩ : ByteArray)) ++ a0_1) ++ (⟨#[32]⟩ : ByteArray)) ++ ((⟨#[72, 84, 84, 80, 47, 49, 46]⟩ : ByteArray) ++ t1078)).size + 2) = False := eq_false (Nat.not_lt.2 c9)
       try have c9b9 : (9223372036854775807 < a0_0.size + 1 + a0_1.size + 1 + (7 + t1078.size) + 2) = False := eq_false (Nat.not_lt.2 (by have z_ := c9; simp only [ByteArray.size_append] at z_; exact z_))
       have HC10 := aM H; clear H
       go_enter Tryz.func60, Tryz.ntmps60
       go_upto_if 22 with (first | ((with_reducible refine gate_dst (N := 2) rfl ?_); refine box_event ?hg (N := 2) ?hd (cs := #[.string a0_0, .string a0_1, .int .i64 a0_2, .string a0_3, .int .i64 a0_4, .slice A0_5 l0_5.length c0_5]) (t := 29) ?hr ?_; (case hd => rfl); (case hg => rfl); (case hr => exact zG); intro gb1077 hg w11 hbox hb; have BK1077 := aM hbox; have GW1077 := aM (by rw [hg]; exact (below_size zB) : w.heap.size ≤ gb1077); replace HB := aM (below_step zB hb); have GE1077 := GW1077; clear hb hbox hg; obtain ⟨_, _, _, _, _, _, _, _, _, _, _, _⟩ := cz6 BK1077.out) | (go_at_call 36; (with_reducible refine (lockageref03_Text.calls k a0_4 10 t1078 _ A3.out).mono ?_); rintro e w' ⟨rfl, ⟨nd, rfl⟩⟩; (try first | exact ⟨rfl, _, World.drewN_drewN _ _ _⟩ | exact ⟨rfl, _, Eq.trans (World.drewN_drewN _ _ _) (congrArg (World.drewN _) (Nat.add_assoc _ _ _))⟩)))
       repeat (go_quiet (first | ((with_reducible refine gate_dst (N := 2) rfl ?_); refine box_event ?hg (N := 2) ?hd (cs := #[.string a0_0, .string a0_1, .int .i64 a0_2, .string a0_3, .int .i64 a0_4, .slice A0_5 l0_5.length c0_5]) (t := 29) ?hr ?_; (case hd => rfl); (case hg => rfl); (case hr => exact zG); intro gb1077 hg w11 hbox hb; have BK1077 := aM hbox; have GW1077 := aM (by rw [hg]; exact (below_size zB) : w.heap.size ≤ gb1077); replace HB := aM (below_step zB hb); have GE1077 := GW1077; clear hb hbox hg; obtain ⟨_, _, _, _, _, _, _, _, _, _, _, _⟩ := cz6 BK1077.out) | (go_at_call 36; (with_reducible refine (lockageref03_Text.calls k a0_4 10 t1078 _ A3.out).mono ?_); rintro e w' ⟨rfl, ⟨nd, rfl⟩⟩; (try first | exact ⟨rfl, _, World.drewN_drewN _ _ _⟩ | exact ⟨rfl, _, Eq.trans (World.drewN_drewN _ _ _) (congrArg (World.drewN _) (Nat.add_assoc _ _ _))⟩))); go_upto_if 22 with (first | ((with_reducible refine gate_dst (N := 2) rfl ?_); refine box_event ?hg (N := 2) ?hd (cs := #[.string a0_0, .string a0_1, .int .i64 a0_2, .string a0_3, .int .i64 a0_4, .slice A0_5 l0_5.length c0_5]) (t := 29) ?hr ?_; (case hd => rfl); (case hg => rfl); (case hr => exact zG); intro gb1077 hg w11 hbox hb; have BK1077 := aM hbox; have GW1077 := aM (by rw [hg]; exact (below_size zB) : w.heap.size ≤ gb1077); replace HB := aM (below_step zB hb); have GE1077 := GW1077; clear hb hbox hg; obtain ⟨_, _, _, _, _, _, _, _, _, _, _, _⟩ := cz6 BK1077.out) | (go_at_call 36; (with_reducible refine (lockageref03_Text.calls k a0_4 10 t1078 _ A3.out).mono ?_); rintro e w' ⟨rfl, ⟨nd, rfl⟩⟩; (try first | exact ⟨rfl, _, World.drewN_drewN _ _ _⟩ | exact ⟨rfl, _, Eq.trans (World.drewN_drewN _ _ _) (congrArg (World.drewN _) (Nat.add_assoc _ _ _))⟩))))
       (try simp only [Act.put, List.setIfInBounds_toArray, List.set_cons_zero, List.set_cons_succ])
       go_cut [6] (fun v6 wc => ∃ (kq : Nat) (x6_9 : ByteArray), v6 = .string x6_9 ∧ Aside0 (lockageref06_Text.j0 kq x6_9 a0_0 a0_1 a0_2 a0_3 a0_4 l0_5 = some r) ∧ Aside0 (kq ≤ k) ∧ Aside0 (wc.heap[gb1077]? = some (.cells #[.string a0_0, .string a0_1, .int .i64 a0_2, .string a0_3, .int .i64 a0_4, (.slice A0_5 l0_5.length c0_5)] 29 (0, 0))) ∧ Aside0 (Below w.heap.size w wc))
       case first =>
        have H := HC10.out; clear HC10; by_cases c13 : a1 = true
        ·subst c13; rw [if_pos rfl] at H; by_cases c14 : ((⟨#[72, 84, 84, 80, 47, 49, 46]⟩ : ByteArray) ++ t1078).size + 1 ≤ 9223372036854775807
         ·rw [if_pos c14] at H; have c14b0 := eq_true c14; have c14b1 := decide_eq_true c14
          try have c14b2 : (9223372036854775807 < ((⟨#[72, 84, 84, 80, 47, 49, 46]⟩ : ByteArray) ++ t1078).size + 1) = False := eq_false (Nat.not_lt.2 c14)
          try have c14b9 : (9223372036854775807 < 7 + t1078.size + 1) = False := eq_false (Nat.not_lt.2 (by have z_ := c14; simp only [ByteArray.size_append] at z_; exact z_))
          try have c14b3 : (9223372036854775807 < 7 + t1078.size + 1) = False := eq_false (Nat.not_lt.2 (by have z_ := c14; rw [ByteArray.size_append] at z_; exact z_))
          obtain ⟨t1079, A15, H⟩ := zc H; (try dsimp only at H); by_cases c16 : (((⟨#[72, 84, 84, 80, 47, 49, 46]⟩ : ByteArray) ++ t1078) ++ (⟨#[32]⟩ : ByteArray)).size + t1079.size ≤ 9223372036854775807
          ·rw [if_pos c16] at H; have c16b0 := eq_true c16; have c16b1 := decide_eq_true c16
           try have c16b2 : (9223372036854775807 < (((⟨#[72, 84, 84, 80, 47, 49, 46]⟩ : ByteArray) ++ t1078) ++ (⟨#[32]⟩ : ByteArray)).size + t1079.size) = False := eq_false (Nat.not_lt.2 c16)
           try have c16b9 : (9223372036854775807 < 7 + t1078.size + 1 + t1079.size) = False := eq_false (Nat.not_lt.2 (by have z_ := c16; simp only [ByteArray.size_append] at z_; exact z_))
           by_cases c17 : ((((⟨#[72, 84, 84, 80, 47, 49, 46]⟩ : ByteArray) ++ t1078) ++ (⟨#[32]⟩ : ByteArray)) ++ t1079).size + 1 ≤ 9223372036854775807
           ·rw [if_pos c17] at H; have c17b0 := eq_true c17; have c17b1 := decide_eq_true c17
            try have c17b2 : (9223372036854775807 < ((((⟨#[72, 84, 84, 80, 47, 49, 46]⟩ : ByteArray) ++ t1078) ++ (⟨#[32]⟩ : ByteArray)) ++ t1079).size + 1) = False := eq_false (Nat.not_lt.2 c17)
            try have c17b9 : (9223372036854775807 < 7 + t1078.size + 1 + t1079.size + 1) = False := eq_false (Nat.not_lt.2 (by have z_ := c17; simp only [ByteArray.size_append] at z_; exact z_))
            by_cases c18 : (((((⟨#[72, 84, 84, 80, 47, 49, 46]⟩ : ByteArray) ++ t1078) ++ (⟨#[32]⟩ : ByteArray)) ++ t1079) ++ (⟨#[32]⟩ : ByteArray)).size + a0_3.size ≤ 9223372036854775807
            ·rw [if_pos c18] at H; have c18b0 := eq_true c18; have c18b1 := decide_eq_true c18
             try have c18b2 : (9223372036854775807 < (((((⟨#[72, 84, 84, 80, 47, 49, 46]⟩ : ByteArray) ++ t1078) ++ (⟨#[32]⟩ : ByteArray)) ++ t1079) ++ (⟨#[32]⟩ : ByteArray)).size + a0_3.size) = False := eq_false (Nat.not_lt.2 c18)
             try have c18b9 : (9223372036854775807 < 7 + t1078.size + 1 + t1079.size + 1 + a0_3.size) = False := eq_false (Nat.not_lt.2 (by have z_ := c18; simp only [ByteArray.size_append] at z_; exact z_))
             by_cases c19 : ((((((⟨#[72, 84, 84, 80, 47, 49, 46]⟩ : ByteArray) ++ t1078) ++ (⟨#[32]⟩ : ByteArray)) ++ t1079) ++ (⟨#[32]⟩ : ByteArray)) ++ a0_3).size + 2 ≤ 9223372036854775807
             ·rw [if_pos c19] at H; have c19b0 := eq_true c19; have c19b1 := decide_eq_true c19
              try have c19b2 : (9223372036854775807 < ((((((⟨#[72, 84, 84, 80, 47, 49, 46]⟩ : ByteArray) ++ t1078) ++ (⟨#[32]⟩ : ByteArray)) ++ t1079) ++ (⟨#[32]⟩ : ByteArray)) ++ a0_3).size + 2) = False := eq_false (Nat.not_lt.2 c19)
              try have c19b9 : (9223372036854775807 < 7 + t1078.size + 1 + t1079.size + 1 + a0_3.size + 2) = False := eq_false (Nat.not_lt.2 (by have z_ := c19; simp only [ByteArray.size_append] at z_; exact z_))
              have H' := aM H; clear H; obtain ⟨_, _, _, _, _, _, _, _, _, _, _, _⟩ := cz6 BK1077.out
              go_wp2_with (first | (go_at_call 36; (with_reducible refine (lockageref03_Text.calls k a0_2 10 t1079 _ A15.out).mono ?_); rintro e w' ⟨rfl, ⟨nd, rfl⟩⟩; (try first | exact ⟨rfl, _, World.drewN_drewN _ _ _⟩ | exact ⟨rfl, _, Eq.trans (World.drewN_drewN _ _ _) (congrArg (World.drewN _) (Nat.add_assoc _ _ _))⟩)))
              repeat (go_quiet (first | (go_at_call 36; (with_reducible refine (lockageref03_Text.calls k a0_2 10 t1079 _ A15.out).mono ?_); rintro e w' ⟨rfl, ⟨nd, rfl⟩⟩; (try first | exact ⟨rfl, _, World.drewN_drewN _ _ _⟩ | exact ⟨rfl, _, Eq.trans (World.drewN_drewN _ _ _) (congrArg (World.drewN _) (Nat.add_assoc _ _ _))⟩))); try go_wp2_with (first | (go_at_call 36; (with_reducible refine (lockageref03_Text.calls k a0_2 10 t1079 _ A15.out).mono ?_); rintro e w' ⟨rfl, ⟨nd, rfl⟩⟩; (try first | exact ⟨rfl, _, World.drewN_drewN _ _ _⟩ | exact ⟨rfl, _, Eq.trans (World.drewN_drewN _ _ _) (congrArg (World.drewN _) (Nat.add_assoc _ _ _))⟩))))
              go_meet
              case rel => exact ⟨_, (((((((⟨#[72, 84, 84, 80, 47, 49, 46]⟩ : ByteArray) ++ t1078) ++ (⟨#[32]⟩ : ByteArray)) ++ t1079) ++ (⟨#[32]⟩ : ByteArray)) ++ a0_3) ++ (⟨#[13, 10]⟩ : ByteArray)), zR, H', ⟨by first | omega | exact Nat.le_refl _⟩, ⟨zK BK1077.out⟩, ⟨zB⟩⟩
             ·exact zf c19 H
            ·exact zf c18 H
           ·exact zf c17 H
          ·exact zf c16 H
         ·exact zf c14 H
        ·replace c13 := Bool.eq_false_iff.mpr c13; subst c13; rw [if_neg (show ¬ (false = true) by decide)] at H; have H' := aM H; clear H
         go_wp2
         repeat (go_quiet (fail); try go_wp2)
         go_meet
         case rel => exact ⟨_, (((((a0_0 ++ (⟨#[32]⟩ : ByteArray)) ++ a0_1) ++ (⟨#[32]⟩ : ByteArray)) ++ ((⟨#[72, 84, 84, 80, 47, 49, 46]⟩ : ByteArray) ++ t1078)) ++ (⟨#[13, 10]⟩ : ByteArray)), zR, H', ⟨by first | omega | exact Nat.le_refl _⟩, ⟨zK BK1077.out⟩, ⟨zB⟩⟩
       case rest =>
        clear HC10; (try clear c1); (try clear p2); (try clear c4); (try clear c4b0); (try clear c4b1); (try clear c4b2); (try clear c5); (try clear c5b0); (try clear c5b1); (try clear c5b2); (try clear c6); (try clear c6b0); (try clear c6b1); (try clear c6b2); (try clear c7); (try clear c7b0); (try clear c7b1); (try clear c7b2); (try clear c8); (try clear c8b0); (try clear c8b1); (try clear c8b2); (try clear c9); (try clear c9b0); (try clear c9b1); (try clear c9b2); (try clear c13); (try clear c14); (try clear c14b0); (try clear c14b1); (try clear c14b2); (try clear c16); (try clear c16b0); (try clear c16b1); (try clear c16b2); (try clear c17); (try clear c17b0); (try clear c17b1); (try clear c17b2); (try clear c18); (try clear c18b0); (try clear c18b1); (try clear c18b2); (try clear c19); (try clear c19b0); (try clear c19b1); (try clear c19b2); obtain ⟨kq, x6_9, rfl, HA, HJ9, BK1077, HB⟩ := hcut; cases kq with
        | zero => exact absurd HA.out (by simp [lockageref06_Text.j0])
        | succ kj9 =>
         have H := HA.out; clear HA; simp only [lockageref06_Text.j0] at H; have H' := aM H; clear H
         go_wp2
         repeat (go_quiet (fail); try go_wp2)
         go_loopg [6, 7] kj9 (fun kq v6 v7 w' => ∃ (x6_2 : ByteArray) (x7_2 : Int), v6 = .string x6_2 ∧ v7 = .int .i64 x7_2 ∧ Aside0 (lockageref06_Text.l0 kq x6_2 x7_2 a0_0 a0_1 a0_2 a0_3 a0_4 l0_5 = some r) ∧ Aside0 (kq ≤ kj9) ∧ Aside0 (w'.heap[gb1077]? = some (.cells #[.string a0_0, .string a0_1, .int .i64 a0_2, .string a0_3, .int .i64 a0_4, (.slice A0_5 l0_5.length c0_5)] 29 (0, 0))) ∧ Aside0 (Below w.heap.size w w'))
         case atStart => exact ⟨(x6_9), (0), zR, zR, H', ⟨Nat.le_refl _⟩, ⟨zK BK1077.out⟩, ⟨zB⟩⟩
         case round =>
          clear H'; (try clear c1); (try clear p2); (try clear c4); (try clear c4b0); (try clear c4b1); (try clear c4b2); (try clear c5); (try clear c5b0); (try clear c5b1); (try clear c5b2); (try clear c6); (try clear c6b0); (try clear c6b1); (try clear c6b2); (try clear c7); (try clear c7b0); (try clear c7b1); (try clear c7b2); (try clear c8); (try clear c8b0); (try clear c8b1); (try clear c8b2); (try clear c9); (try clear c9b0); (try clear c9b1); (try clear c9b2); (try clear c13); (try clear c14); (try clear c14b0); (try clear c14b1); (try clear c14b2); (try clear c16); (try clear c16b0); (try clear c16b1); (try clear c16b2); (try clear c17); (try clear c17b0); (try clear c17b1); (try clear c17b2); (try clear c18); (try clear c18b0); (try clear c18b1); (try clear c18b2); (try clear c19); (try clear c19b0); (try clear c19b1); (try clear c19b2); (try clear p2); obtain ⟨x6_2, x7_2, rfl, rfl, HA, HK2, BK1077, HB⟩ := hrel; cases gk with
          | zero => exact absurd HA.out (by simp [lockageref06_Text.l0])
          | succ k2 =>
           have H := HA.out; clear HA; simp only [lockageref06_Text.l0] at H; by_cases c21 : x7_2 < (l0_5.length : Int)
           ·rw [if_pos c21] at H; have c21b0 := decide_eq_true c21; clear c21; by_cases c22 : 0 ≤ x7_2
            ·rw [if_pos c22] at H; have c22b0 := decide_eq_true c22; clear c22; by_cases c23 : x6_2.size + ((rd_T40 l0_5 x7_2).f0).size ≤ 9223372036854775807
             ·rw [if_pos c23] at H; have c23b0 := eq_true c23; have c23b1 := decide_eq_true c23
              try have c23b2 : (9223372036854775807 < x6_2.size + ((rd_T40 l0_5 x7_2).f0).size) = False := eq_false (Nat.not_lt.2 c23)
              by_cases c24 : (x6_2 ++ ((rd_T40 l0_5 x7_2).f0)).size + 2 ≤ 9223372036854775807
              ·rw [if_pos c24] at H; have c24b0 := eq_true c24; have c24b1 := decide_eq_true c24
               try have c24b2 : (9223372036854775807 < (x6_2 ++ ((rd_T40 l0_5 x7_2).f0)).size + 2) = False := eq_false (Nat.not_lt.2 c24)
               try have c24b9 : (9223372036854775807 < x6_2.size + ((rd_T40 l0_5 x7_2).f0).size + 2) = False := eq_false (Nat.not_lt.2 (by have z_ := c24; simp only [ByteArray.size_append] at z_; exact z_))
               by_cases c25 : ((x6_2 ++ ((rd_T40 l0_5 x7_2).f0)) ++ (⟨#[58, 32]⟩ : ByteArray)).size + ((rd_T40 l0_5 x7_2).f1).size ≤ 9223372036854775807
               ·rw [if_pos c25] at H; have c25b0 := eq_true c25; have c25b1 := decide_eq_true c25
                try have c25b2 : (9223372036854775807 < ((x6_2 ++ ((rd_T40 l0_5 x7_2).f0)) ++ (⟨#[58, 32]⟩ : ByteArray)).size + ((rd_T40 l0_5 x7_2).f1).size) = False := eq_false (Nat.not_lt.2 c25)
                try have c25b9 : (9223372036854775807 < x6_2.size + ((rd_T40 l0_5 x7_2).f0).size + 2 + ((rd_T40 l0_5 x7_2).f1).size) = False := eq_false (Nat.not_lt.2 (by have z_ := c25; simp only [ByteArray.size_append] at z_; exact z_))
                by_cases c26 : (((x6_2 ++ ((rd_T40 l0_5 x7_2).f0)) ++ (⟨#[58, 32]⟩ : ByteArray)) ++ ((rd_T40 l0_5 x7_2).f1)).size + 2 ≤ 9223372036854775807
                ·rw [if_pos c26] at H; have c26b0 := eq_true c26; have c26b1 := decide_eq_true c26
                 try have c26b2 : (9223372036854775807 < (((x6_2 ++ ((rd_T40 l0_5 x7_2).f0)) ++ (⟨#[58, 32]⟩ : ByteArray)) ++ ((rd_T40 l0_5 x7_2).f1)).size + 2) = False := eq_false (Nat.not_lt.2 c26)
                 try have c26b9 : (9223372036854775807 < x6_2.size + ((rd_T40 l0_5 x7_2).f0).size + 2 + ((rd_T40 l0_5 x7_2).f1).size + 2) = False := eq_false (Nat.not_lt.2 (by have z_ := c26; simp only [ByteArray.size_append] at z_; exact z_))
                 have H' := aM H; clear H; obtain ⟨_, _, _, _, _, _, _, _, _, _, _, _⟩ := cz6 BK1077.out; have p1080 : 0 ≤ (x7_2 : Int) := of_decide_eq_true zA; have q1080 : x7_2 < (l0_5.length : Int) := of_decide_eq_true zA; obtain ⟨ad1080, e1080, hx1080_0, hx1080_1⟩ := at_T40 HR0_5.out x7_2 p1080 q1080; cases e1080; replace hx1080_0 := (HB.out.cell (World.block_lt_of_cell? w _ hx1080_0)).trans hx1080_0; replace hx1080_1 := (HB.out.cell (World.block_lt_of_cell? w _ hx1080_1)).trans hx1080_1; replace p1080 := eq_true p1080; replace q1080 := eq_true q1080; have p1081 : 0 ≤ (x7_2 : Int) := of_decide_eq_true zA; have q1081 : x7_2 < (l0_5.length : Int) := of_decide_eq_true zA; obtain ⟨ad1081, e1081, hx1081_0, hx1081_1⟩ := at_T40 HR0_5.out x7_2 p1081 q1081; obtain rfl : ad1080 = ad1081 := (by injection e1081); replace hx1081_0 := (HB.out.cell (World.block_lt_of_cell? w _ hx1081_0)).trans hx1081_0; replace hx1081_1 := (HB.out.cell (World.block_lt_of_cell? w _ hx1081_1)).trans hx1081_1; replace p1081 := eq_true p1081; replace q1081 := eq_true q1081
                 go_wp2
                 repeat (go_quiet (fail); try go_wp2)
                 go_roundg k2
                 case measure => have := HJ9.out; have := HK2.out; omega
                 case rel => exact ⟨((((x6_2 ++ ((rd_T40 l0_5 x7_2).f0)) ++ (⟨#[58, 32]⟩ : ByteArray)) ++ ((rd_T40 l0_5 x7_2).f1)) ++ (⟨#[13, 10]⟩ : ByteArray)), (wrap64 (x7_2 + 1)), zR, zR, H', ⟨by have := HJ9.out; have := HK2.out; omega⟩, ⟨zK BK1077.out⟩, ⟨zB⟩⟩
                ·exact zf c26 H
               ·exact zf c25 H
              ·exact zf c24 H
             ·exact zf c23 H
            ·exact zf c22 H
           ·rw [if_neg c21] at H; have c21b0 := decide_eq_false c21; clear c21; by_cases c28 : x6_2.size + 2 ≤ 9223372036854775807
            ·rw [if_pos c28] at H; have c28b0 := eq_true c28; have c28b1 := decide_eq_true c28
             try have c28b2 : (9223372036854775807 < x6_2.size + 2) = False := eq_false (Nat.not_lt.2 c28)
             obtain rfl := Option.some.inj H; obtain ⟨_, _, _, _, _, _, _, _, _, _, _, _⟩ := cz6 BK1077.out
             go_wp2
             repeat (go_quiet (fail); try go_wp2)
             go_ret
             exact ⟨zE, zB⟩
            ·exact zf c28 H
      ·exact zf c9 H
     ·exact zf c8 H
    ·exact zf c7 H
   ·exact zf c6 H
  ·exact zf c5 H
 ·exact zf c4 H

def lockageref06_Print.f (k : Nat) (a0_0 : ByteArray) (a0_1 : ByteArray) (a0_2 : Int) (a0_3 : ByteArray) (a0_4 : Int) (l0_5 : List (S40)) (a1 : Bool) : Option (ByteArray × Int) := (lockageref06_Right.f k a0_0 a0_1 a0_2 a0_3 a0_4 l0_5 a1).bind fun t1083 => (if t1083 = true then ((lockageref06_Text.f k a0_0 a0_1 a0_2 a0_3 a0_4 l0_5 a1).bind fun t1084 => (if (wrap64 ((t1084.size : Int) - 4)) > 2000 then (some ((⟨#[]⟩ : ByteArray), 2)) else (some (t1084, 0)))) else (some ((⟨#[]⟩ : ByteArray), 1)))
theorem lockageref06_Print.mono : ∀ a0 a1 a2 a3 a4 a5 a6 k, LeO (lockageref06_Print.f k a0 a1 a2 a3 a4 a5 a6) (lockageref06_Print.f (k + 1) a0 a1 a2 a3 a4 a5 a6) := by
 intro a0 a1 a2 a3 a4 a5 a6 k
 unfold lockageref06_Print.f; have m0 := @lockageref06_Right.mono; have m1 := @lockageref06_Text.mono; exact zM
set_option maxHeartbeats 8000000 in
set_option maxRecDepth 100000 in
theorem lockageref06_Print.calls (k : Nat) (a0_0 : ByteArray) (a0_1 : ByteArray) (a0_2 : Int) (a0_3 : ByteArray) (a0_4 : Int) (A0_5 : Option Addr) (c0_5 : Nat) (l0_5 : List (S40)) (a1 : Bool) (r1 : ByteArray) (r2 : Int) (w : World) (hr0_5 : Kd.C k40 w A0_5 l0_5.length l0_5) (hc0_5 : l0_5.length ≤ c0_5) (h : lockageref06_Print.f k a0_0 a0_1 a0_2 a0_3 a0_4 l0_5 a1 = some (r1, r2)) :
  Calls Tryz.prog 37 #[.agg #[.string a0_0, .string a0_1, .int .i64 a0_2, .string a0_3, .int .i64 a0_4, .slice A0_5 l0_5.length c0_5], .bool a1] w fun e w' => e = .returned (.tuple #[.string r1, .int .i64 r2]) ∧ Below w.heap.size w w' := by
 have hu29 := Tryz.underlying29; have HR0_5 := aM hr0_5; have HC0_5 := aM hc0_5; clear hr0_5 hc0_5; have HB := aM (Below.refl w.heap.size w); have H := h; unfold lockageref06_Print.f at H; clear h; obtain ⟨t1083, A3, H⟩ := zc H; (try dsimp only at H); by_cases c4 : t1083 = true
 ·subst c4; rw [if_pos rfl] at H; replace H := Option.bind_eq_some_iff.mp H; obtain ⟨t1084, A50, H⟩ := H; replace H : (if (wrap64 ((t1084.size : Int) - 4)) > 2000 then (some ((⟨#[]⟩ : ByteArray), 2)) else (some (t1084, 0))) = some (r1, r2) := H; have A5 := aM A50; clear A50; by_cases c6 : (wrap64 ((t1084.size : Int) - 4)) > 2000
  ·rw [if_pos c6] at H; have c6b0 := decide_eq_true c6; clear c6; simp only [Option.some.injEq, Prod.mk.injEq] at H; obtain ⟨rfl, rfl⟩ := H
   go_enter Tryz.func37, Tryz.ntmps37
   go_wp2_with (first | ((with_reducible refine gate_dst (N := 2) rfl ?_); refine box_event ?hg (N := 2) ?hd (cs := #[.string a0_0, .string a0_1, .int .i64 a0_2, .string a0_3, .int .i64 a0_4, .slice A0_5 l0_5.length c0_5]) (t := 29) ?hr ?_; (case hd => rfl); (case hg => rfl); (case hr => exact zG); intro gb1082 hg w7 hbox hb; have BK1082 := aM hbox; have GW1082 := aM (by rw [hg]; exact (below_size zB) : w.heap.size ≤ gb1082); replace HB := aM (below_step zB hb); have GE1082 := GW1082; clear hb hbox hg; obtain ⟨_, _, _, _, _, _, _, _, _, _, _, _⟩ := cz6 BK1082.out) | ((with_reducible refine gate_callee (f := 47) rfl ?_); refine goesL_ (some 9) rfl rfl Tryz.func47 (by kernel_rfl) rfl #[.agg #[.string a0_0, .string a0_1, .int .i64 a0_2, .string a0_3, .int .i64 a0_4, .slice A0_5 l0_5.length c0_5], .bool a1] rfl zL ?_; (with_reducible refine (lockageref06_Right.calls k a0_0 a0_1 a0_2 a0_3 a0_4 _ _ l0_5 a1 true _ ?side1 ?side2 A3.out).mono ?_); (case side1 => exact zC (Kd.C_below HR0_5.out HB.out)); (case side2 => exact HC0_5.out); rintro e w9 ⟨rfl, hb⟩; refine ⟨_, rfl, ?_⟩; replace BK1082 := aM (zX BK1082.out hb); replace HB := aM (below_step zB hb); clear hb; obtain ⟨_, _, _, _, _, _, _, _, _, _, _, _⟩ := cz6 BK1082.out) | ((with_reducible refine gate_callee (f := 60) rfl ?_); refine goesL_ (some 13) rfl rfl Tryz.func60 (by kernel_rfl) rfl #[.agg #[.string a0_0, .string a0_1, .int .i64 a0_2, .string a0_3, .int .i64 a0_4, .slice A0_5 l0_5.length c0_5], .bool a1] rfl zL ?_; (with_reducible refine (lockageref06_Text.calls k a0_0 a0_1 a0_2 a0_3 a0_4 _ _ l0_5 a1 t1084 _ ?side1 ?side2 A5.out).mono ?_); (case side1 => exact zC (Kd.C_below HR0_5.out HB.out)); (case side2 => exact HC0_5.out); rintro e w11 ⟨rfl, hb⟩; refine ⟨_, rfl, ?_⟩; replace BK1082 := aM (zX BK1082.out hb); replace HB := aM (below_step zB hb); clear hb))
   go_ret2
   exact ⟨zE, zB⟩
  ·rw [if_neg c6] at H; have c6b0 := decide_eq_false c6; clear c6; simp only [Option.some.injEq, Prod.mk.injEq] at H; obtain ⟨rfl, rfl⟩ := H
   go_enter Tryz.func37, Tryz.ntmps37
   go_wp2_with (first | ((with_reducible refine gate_dst (N := 2) rfl ?_); refine box_event ?hg (N := 2) ?hd (cs := #[.string a0_0, .string a0_1, .int .i64 a0_2, .string a0_3, .int .i64 a0_4, .slice A0_5 l0_5.length c0_5]) (t := 29) ?hr ?_; (case hd => rfl); (case hg => rfl); (case hr => exact zG); intro gb1082 hg w12 hbox hb; have BK1082 := aM hbox; have GW1082 := aM (by rw [hg]; exact (below_size zB) : w.heap.size ≤ gb1082); replace HB := aM (below_step zB hb); have GE1082 := GW1082; clear hb hbox hg; obtain ⟨_, _, _, _, _, _, _, _, _, _, _, _⟩ := cz6 BK1082.out) | ((with_reducible refine gate_callee (f := 47) rfl ?_); refine goesL_ (some 9) rfl rfl Tryz.func47 (by kernel_rfl) rfl #[.agg #[.string a0_0, .string a0_1, .int .i64 a0_2, .string a0_3, .int .i64 a0_4, .slice A0_5 l0_5.length c0_5], .bool a1] rfl zL ?_; (with_reducible refine (lockageref06_Right.calls k a0_0 a0_1 a0_2 a0_3 a0_4 _ _ l0_5 a1 true _ ?side1 ?side2 A3.out).mono ?_); (case side1 => exact zC (Kd.C_below HR0_5.out HB.out)); (case side2 => exact HC0_5.out); rintro e w14 ⟨rfl, hb⟩; refine ⟨_, rfl, ?_⟩; replace BK1082 := aM (zX BK1082.out hb); replace HB := aM (below_step zB hb); clear hb; obtain ⟨_, _, _, _, _, _, _, _, _, _, _, _⟩ := cz6 BK1082.out) | ((with_reducible refine gate_callee (f := 60) rfl ?_); refine goesL_ (some 13) rfl rfl Tryz.func60 (by kernel_rfl) rfl #[.agg #[.string a0_0, .string a0_1, .int .i64 a0_2, .string a0_3, .int .i64 a0_4, .slice A0_5 l0_5.length c0_5], .bool a1] rfl zL ?_; (with_reducible refine (lockageref06_Text.calls k a0_0 a0_1 a0_2 a0_3 a0_4 _ _ l0_5 a1 t1084 _ ?side1 ?side2 A5.out).mono ?_); (case side1 => exact zC (Kd.C_below HR0_5.out HB.out)); (case side2 => exact HC0_5.out); rintro e w16 ⟨rfl, hb⟩; refine ⟨_, rfl, ?_⟩; replace BK1082 := aM (zX BK1082.out hb); replace HB := aM (below_step zB hb); clear hb))
   go_ret2
   exact ⟨zE, zB⟩
 ·replace c4 := Bool.eq_false_iff.mpr c4; subst c4; rw [if_neg (show ¬ (false = true) by decide)] at H; simp only [Option.some.injEq, Prod.mk.injEq] at H; obtain ⟨rfl, rfl⟩ := H
  go_enter Tryz.func37, Tryz.ntmps37
  go_wp2_with (first | ((with_reducible refine gate_dst (N := 2) rfl ?_); refine box_event ?hg (N := 2) ?hd (cs := #[.string a0_0, .string a0_1, .int .i64 a0_2, .string a0_3, .int .i64 a0_4, .slice A0_5 l0_5.length c0_5]) (t := 29) ?hr ?_; (case hd => rfl); (case hg => rfl); (case hr => exact zG); intro gb1082 hg w17 hbox hb; have BK1082 := aM hbox; have GW1082 := aM (by rw [hg]; exact (below_size zB) : w.heap.size ≤ gb1082); replace HB := aM (below_step zB hb); have GE1082 := GW1082; clear hb hbox hg; obtain ⟨_, _, _, _, _, _, _, _, _, _, _, _⟩ := cz6 BK1082.out) | ((with_reducible refine gate_callee (f := 47) rfl ?_); refine goesL_ (some 9) rfl rfl Tryz.func47 (by kernel_rfl) rfl #[.agg #[.string a0_0, .string a0_1, .int .i64 a0_2, .string a0_3, .int .i64 a0_4, .slice A0_5 l0_5.length c0_5], .bool a1] rfl zL ?_; (with_reducible refine (lockageref06_Right.calls k a0_0 a0_1 a0_2 a0_3 a0_4 _ _ l0_5 a1 false _ ?side1 ?side2 A3.out).mono ?_); (case side1 => exact zC (Kd.C_below HR0_5.out HB.out)); (case side2 => exact HC0_5.out); rintro e w19 ⟨rfl, hb⟩; refine ⟨_, rfl, ?_⟩; replace BK1082 := aM (zX BK1082.out hb); replace HB := aM (below_step zB hb); clear hb))
  go_ret2
  exact ⟨zE, zB⟩

end Go.Proofs.YtapeodbgobkjeaaGreatDoor.P
