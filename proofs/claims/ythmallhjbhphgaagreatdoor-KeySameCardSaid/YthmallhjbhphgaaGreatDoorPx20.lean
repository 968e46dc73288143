/- Printed by a program of the session out of the translation: plain Lean functions, each with the contract that the Go function computes it. -/
import Derived.Test.YthmallhjbhphgaaGreatDoorPx0
import Derived.Test.YthmallhjbhphgaaGreatDoorPx5
import Derived.Test.YthmallhjbhphgaaGreatDoorHZC
namespace Go.Proofs.YthmallhjbhphgaaGreatDoor.P
open Go.RowKit Go.Proofs.YthmallhjbhphgaaGreatDoorW.PrintWords Go.Proofs.YthmallhjbhphgaaGreatDoorW.PrintLast Go.Proofs.YthmallhjbhphgaaGreatDoorW.PrintMore
attribute [local go_sem] max2_int min2_int max_two min_two max_three min_three max_four min_four   -- for this text's walks alone
set_option linter.unusedVariables false
set_option linter.unusedSimpArgs false

mutual
def lockageref05_Drop.l0 : Nat → List (S37) → List ByteArray → List (S37) → Int → Option ((List (S37)))
 | 0, _, _, _, _ => none
 | k + 1, x0, x1, x5, x6 => if x6 < (x0.length : Int) then (lockageref05_Drop.l1 k x0 x1 x5 x6 true 0) else (some x5)
def lockageref05_Drop.l1 : Nat → List (S37) → List ByteArray → List (S37) → Int → Bool → Int → Option ((List (S37)))
 | 0, _, _, _, _, _, _ => none
 | k + 1, x0, x1, x5, x6, x7, x8 => if x8 < (x1.length : Int) then (if x7 = true then (if 0 ≤ x6 then (if x6 < (x0.length : Int) then ((lockageref05_Lower.f k ((rd_T37 x0 x6).f0)).bind fun t592 => (if 0 ≤ x8 then ((lockageref05_Lower.f k (rdOf ByteArray.empty x1 x8)).bind fun t594 => (lockageref05_Drop.l1 k x0 x1 x5 x6 (t592.toList != t594.toList) (wrap64 (x8 + 1)))) else (none))) else (none)) else (none)) else (lockageref05_Drop.l1 k x0 x1 x5 x6 false (wrap64 (x8 + 1)))) else (if x7 = true then (if 0 ≤ x6 then (if x6 < (x0.length : Int) then (if x5.length < 4398046511104 then (lockageref05_Drop.l0 k x0 x1 (x5 ++ [(⟨(rd_T37 x0 x6).f0, (rd_T37 x0 x6).f1⟩ : S37)]) (wrap64 (x6 + 1))) else (none)) else (none)) else (none)) else (lockageref05_Drop.l0 k x0 x1 x5 (wrap64 (x6 + 1))))
end
def lockageref05_Drop.f (k : Nat) (l0 : List (S37)) (l1 : List ByteArray) : Option ((List (S37))) := lockageref05_Drop.l0 k l0 l1 ([] : List (S37)) 0
theorem lockageref05_Drop.mono_l : ∀ k, (∀ y0 y1 y2 y3, LeO (lockageref05_Drop.l0 k y0 y1 y2 y3) (lockageref05_Drop.l0 (k + 1) y0 y1 y2 y3)) ∧ (∀ y0 y1 y2 y3 y4 y5, LeO (lockageref05_Drop.l1 k y0 y1 y2 y3 y4 y5) (lockageref05_Drop.l1 (k + 1) y0 y1 y2 y3 y4 y5))
 | 0 => ⟨fun _ _ _ _ r h => by simp [lockageref05_Drop.l0] at h, fun _ _ _ _ _ _ r h => by simp [lockageref05_Drop.l1] at h⟩
 | k + 1 => by
  obtain ⟨ih0, ih1⟩ := lockageref05_Drop.mono_l k
  refine ⟨?_, ?_⟩
  ·intro y0 y1 y2 y3
   unfold lockageref05_Drop.l0
   repeat' first
   | (with_reducible exact ih0 _ _ _ _)
   | (with_reducible exact ih1 _ _ _ _ _ _)
   | (with_reducible exact lockageref05_Lower.mono _ _)
   | (with_reducible exact LeO.refl _)
   | (with_reducible exact LeO.none _)
   | (with_reducible refine LeO.ite ?_ ?_)
   | (with_reducible refine LeO.bind ?_ (fun _ => ?_))
   | exact ih0 _ _ _ _
   | exact ih1 _ _ _ _ _ _
   | exact lockageref05_Lower.mono _ _
   | exact LeO.none _
   | refine LeO.ite ?_ ?_
   | refine LeO.bind ?_ (fun _ => ?_)
  ·intro y0 y1 y2 y3 y4 y5
   unfold lockageref05_Drop.l1
   repeat' first
   | (with_reducible exact ih0 _ _ _ _)
   | (with_reducible exact ih1 _ _ _ _ _ _)
   | (with_reducible exact lockageref05_Lower.mono _ _)
   | (with_reducible exact LeO.refl _)
   | (with_reducible exact LeO.none _)
   | (with_reducible refine LeO.ite ?_ ?_)
   | (with_reducible refine LeO.bind ?_ (fun _ => ?_))
   | exact ih0 _ _ _ _
   | exact ih1 _ _ _ _ _ _
   | exact lockageref05_Lower.mono _ _
   | exact LeO.none _
   | refine LeO.ite ?_ ?_
   | refine LeO.bind ?_ (fun _ => ?_)
theorem lockageref05_Drop.mono : ∀ a0 a1 k, LeO (lockageref05_Drop.f k a0 a1) (lockageref05_Drop.f (k + 1) a0 a1) := by
 intro a0 a1 k
 obtain ⟨ih0, ih1⟩ := lockageref05_Drop.mono_l k
 unfold lockageref05_Drop.f
 repeat' first
   | (with_reducible exact ih0 _ _ _ _)
   | (with_reducible exact ih1 _ _ _ _ _ _)
   | (with_reducible exact lockageref05_Lower.mono _ _)
   | (with_reducible exact LeO.refl _)
   | (with_reducible exact LeO.none _)
   | (with_reducible refine LeO.ite ?_ ?_)
   | (with_reducible refine LeO.bind ?_ (fun _ => ?_))
   | exact ih0 _ _ _ _
   | exact ih1 _ _ _ _ _ _
   | exact lockageref05_Lower.mono _ _
   | exact LeO.none _
   | refine LeO.ite ?_ ?_
   | refine LeO.bind ?_ (fun _ => ?_)
def lockageref05_Drop.T9 : Bool × List (List Nat × List Nat) := (true, [([], []), ([0], [0]), ([1], [1]), ([1], [1]), ([2, 3, 1], [1, 2, 3]), ([4, 1], [1, 4]), ([5, 1], [1, 5]), ([6, 1, 1], [1, 6]), ([1], [1]), ([1], [1]), ([8, 9, 1], [1, 8, 9]), ([10, 1], [1, 10]), ([11, 7, 1], [1, 11]), ([7, 12, 1], [1, 7, 12]), ([1, 13], [1, 13]), ([14, 12, 0, 1, 2, 3, 4, 5, 6, 7, 8, 9, 10, 11, 12, 13, 14], [0, 14])])
def lockageref05_Drop.B9 : List Nat := [0, 1, 3, 3, 15, 31, 63, 127, 3, 3, 771, 1795, 4095, 8191, 16383, 32767]
theorem lockageref05_Drop.tab9 : rtab .any (opsOf Tryz.f23 9) = lockageref05_Drop.T9 := by kernel_rfl
theorem lockageref05_Drop.bits9 : waitsOk lockageref05_Drop.T9.2 lockageref05_Drop.B9 = true := by kernel_rfl
set_option maxHeartbeats 8000000 in
set_option maxRecDepth 100000 in
theorem lockageref05_Drop.calls (k : Nat) (A0 : Option Addr) (c0 : Nat) (l0 : List (S37)) (A1 : Option Addr) (c1 : Nat) (l1 : List ByteArray) (r : List (S37)) (w : World) (hr0 : Kd.C k37 w A0 l0.length l0) (hc0 : l0.length ≤ c0) (hr1 : Kd.C Kd.string w A1 l1.length l1) (hc1 : l1.length ≤ c1) (h : lockageref05_Drop.f k l0 l1 = some r) :
  Calls Tryz.prog 23 #[.slice A0 l0.length c0, .slice A1 l1.length c1] w fun e w' => ∃ v0_ : Value, e = .returned (v0_) ∧ Kd.R k37 37 w' w.heap.size (fun _ => True) v0_ r ∧ Below w.heap.size w w' := by
 have hu37 := Tryz.underlying37
 have HR0 := Aside0.mk hr0
 have HC0 := Aside0.mk hc0
 clear hr0 hc0
 have HR1 := Aside0.mk hr1
 have HC1 := Aside0.mk hc1
 clear hr1 hc1
 have HB := Aside0.mk (Below.refl w.heap.size w)
 have H : (lockageref05_Drop.l0 k l0 l1 ([] : List (S37)) 0) = some r := h
 clear h
 have H' := Aside0.mk H
 clear H
 go_enter Tryz.func23, Tryz.ntmps23
 go_wp2
 go_loopg [5, 6] k (fun kq v5 v6 w' => ∃ (x5_1 : List (S37)) (x6_1 : Int), v6 = .int .i64 x6_1 ∧ Aside0 (lockageref05_Drop.l0 kq l0 l1 x5_1 x6_1 = some r) ∧ Aside0 (kq ≤ k) ∧ Aside0 (Kd.R k37 37 w' w.heap.size (fun _ => True) v5 x5_1) ∧ Aside0 (Below w.heap.size w w'))
 case atStart => exact ⟨(([] : List (S37))), (0), (by first | rfl | (simp; done) | (simp [*]; done)), H', ⟨Nat.le_refl _⟩, ⟨by first | exact Kd.R_nil _ _ _ _ _ | exact Kd.N_nil _ _ _ _ _ | exact Kd.V_nil _ _ _ _ _ | exact Kd.Q_nil _ _ _ _ _ | exact Kd.S_nil _ _ _ _ _⟩, ⟨by repeat (first | (with_reducible first | exact HB.out | apply below_alloc | apply pw_below_drewN | apply below_drew1) | exact HB.out)⟩⟩
 case round =>
  clear H'
  try clear c1
  try clear c2
  try clear p2
  obtain ⟨x5_1, x6_1, rfl, HA, HK1, HO_5, HB⟩ := hrel
  cases gk with
  | zero => exact absurd HA.out (by simp [lockageref05_Drop.l0])
  | succ k1 =>
   have H := HA.out
   clear HA
   simp only [lockageref05_Drop.l0] at H
   by_cases c3 : x6_1 < (l0.length : Int)
   ·rw [if_pos c3] at H
    have c3b0 : decide (x6_1 < (l0.length : Int)) = true := decide_eq_true c3
    clear c3
    have H' := Aside0.mk H
    clear H
    go_wp2
    go_loopg [7, 8] k1 (fun kq v7 v8 w' => ∃ (x7_2 : Bool) (x8_2 : Int), v7 = .bool x7_2 ∧ v8 = .int .i64 x8_2 ∧ Aside0 (lockageref05_Drop.l1 kq l0 l1 x5_1 x6_1 x7_2 x8_2 = some r) ∧ Aside0 (kq ≤ k1) ∧ Aside0 (Kd.R k37 37 w' w.heap.size (fun _ => True) u5 x5_1) ∧ Aside0 (Below w.heap.size w w'))
    case atStart => exact ⟨(true), (0), (by first | rfl | (simp; done) | (simp [*]; done)), (by first | rfl | (simp; done) | (simp [*]; done)), H', ⟨Nat.le_refl _⟩, ⟨by (with_reducible repeat (first | apply Kd.R_alloc | apply Kd.R_drewN | apply Kd.R_drew)); exact HO_5.out⟩, ⟨by repeat (first | (with_reducible first | exact HB.out | apply below_alloc | apply pw_below_drewN | apply below_drew1) | exact HB.out)⟩⟩
    case round =>
     clear H'
     try clear c1
     try clear c2
     try clear p2
     try clear c3
     try clear c3b0
     try clear p2
     obtain ⟨x7_2, x8_2, rfl, rfl, HA, HK2, HO_5, HB⟩ := hrel
     cases gk with
     | zero => exact absurd HA.out (by simp [lockageref05_Drop.l1])
     | succ k2 =>
      have H := HA.out
      clear HA
      simp only [lockageref05_Drop.l1] at H
      by_cases c4 : x8_2 < (l1.length : Int)
      ·rw [if_pos c4] at H
       have c4b0 : decide (x8_2 < (l1.length : Int)) = true := decide_eq_true c4
       clear c4
       by_cases c5 : x7_2 = true
       ·subst c5
        have H1 : (if 0 ≤ x6_1 then (if x6_1 < (l0.length : Int) then ((lockageref05_Lower.f k2 ((rd_T37 l0 x6_1).f0)).bind fun t592 => (if 0 ≤ x8_2 then ((lockageref05_Lower.f k2 (rdOf ByteArray.empty l1 x8_2)).bind fun t594 => (lockageref05_Drop.l1 k2 l0 l1 x5_1 x6_1 (t592.toList != t594.toList) (wrap64 (x8_2 + 1)))) else (none))) else (none)) else (none)) = some r := by rw [if_pos rfl] at H; exact H
        clear H
        have H := H1
        clear H1
        by_cases c6 : 0 ≤ x6_1
        ·rw [if_pos c6] at H
         have c6b0 : decide (0 ≤ x6_1) = true := decide_eq_true c6
         clear c6
         by_cases c7 : x6_1 < (l0.length : Int)
         ·rw [if_pos c7] at H
          have c7b0 : decide (x6_1 < (l0.length : Int)) = true := decide_eq_true c7
          clear c7
          replace H := Option.bind_eq_some_iff.mp H
          obtain ⟨t592, A80, H⟩ := H
          replace H : (if 0 ≤ x8_2 then ((lockageref05_Lower.f k2 (rdOf ByteArray.empty l1 x8_2)).bind fun t594 => (lockageref05_Drop.l1 k2 l0 l1 x5_1 x6_1 (t592.toList != t594.toList) (wrap64 (x8_2 + 1)))) else (none)) = some r := H
          have A8 := Aside0.mk A80
          clear A80
          by_cases c9 : 0 ≤ x8_2
          ·rw [if_pos c9] at H
           have c9b0 : decide (0 ≤ x8_2) = true := decide_eq_true c9
           clear c9
           replace H := Option.bind_eq_some_iff.mp H
           obtain ⟨t594, A100, H⟩ := H
           replace H : (lockageref05_Drop.l1 k2 l0 l1 x5_1 x6_1 (t592.toList != t594.toList) (wrap64 (x8_2 + 1))) = some r := H
           have A10 := Aside0.mk A100
           clear A100
           have H' := Aside0.mk H
           clear H
           try go_wp2
           have n0_ := Aside0.mk (Kd.R_drew HO_5.out)
           have n1_ := Aside0.mk (below_drew1 HB.out)
           clear HO_5
           clear HB
           have HO_5 := n0_
           have HB := n1_
           clear n0_ n1_
           have p591 : 0 ≤ (x6_1 : Int) := of_decide_eq_true (by first | (with_reducible assumption) | assumption)
           have q591 : x6_1 < (l0.length : Int) := of_decide_eq_true (by first | (with_reducible assumption) | assumption)
           obtain ⟨ad591, e591, hx591_0, hx591_1⟩ := at_T37 HR0.out x6_1 p591 q591
           have hw591_1 := hx591_1
           have hw591_0 := hx591_0
           cases e591
           replace hx591_0 := (HB.out.cell (World.block_lt_of_cell? w _ hx591_0)).trans hx591_0
           replace hx591_1 := (HB.out.cell (World.block_lt_of_cell? w _ hx591_1)).trans hx591_1
           replace p591 := eq_true p591
           replace q591 := eq_true q591
           have p593 : 0 ≤ (x8_2 : Int) := of_decide_eq_true (by first | (with_reducible assumption) | assumption)
           have q593 : x8_2 < (l1.length : Int) := of_decide_eq_true (by first | (with_reducible assumption) | assumption)
           obtain ⟨ad593, e593, hx593_0⟩ := Kd.at_string HR1.out x8_2 p593 q593
           have hw593_0 := hx593_0
           cases e593
           replace hx593_0 := (HB.out.cell (World.block_lt_of_cell? w _ hx593_0)).trans hx593_0
           replace p593 := eq_true p593
           replace q593 := eq_true q593
           refine start_ (n := 16) (S := fun w' => w'.cell? (ad591.add ((x6_1).toNat * 2)) = some (.string ((rd_T37 l0 x6_1).f0)) ∧ w'.cell? ⟨(ad591.add ((x6_1).toNat * 2)).block, (ad591.add ((x6_1).toNat * 2)).off + 1, none⟩ = some (.string ((rd_T37 l0 x6_1).f1)) ∧ w'.cell? (ad593.add (x8_2).toNat) = some (.string (rdOf ByteArray.empty l1 x8_2))) (ds := []) #[false, false, false, false, false, false, false, false, false, false, false, false, false, false, false, false] (by kernel_rfl) rfl rfl ⟨((HB.out.cell (World.block_lt_of_cell? w _ hw591_0)).trans hw591_0), ((HB.out.cell (World.block_lt_of_cell? w _ hw591_1)).trans hw591_1), ((HB.out.cell (World.block_lt_of_cell? w _ hw593_0)).trans hw593_0)⟩ (fun hHeld => ?_); refine with_tabW lockageref05_Drop.tab9 lockageref05_Drop.bits9 (fun HT_ HW_ => ?_)
           generalize wr.drew = w11 at HO_5 HB hx591_0 hx591_1 hx593_0 hHeld ⊢
           refine pure_ (i := 0) (N := some 21) (v := ?_) (a' := ?_) #[true, false, false, false, false, false, false, false, false, false, false, false, false, false, false, false] rfl rfl (any_of HT_.out (by kernel_rfl)) (fun _ _ _ h => h) (Or.inl ⟨by rfl, ?_⟩) ?_ ?_
           rotate_left
           ·intro w'
            go_simp
            with_reducible rfl
           rotate_left
           ·simp only [Act.put, List.setIfInBounds_toArray, List.set_cons_zero, List.set_cons_succ, i64_w, i32_w]
            rfl
           refine pure_ (i := 1) (N := some 22) (v := ?_) (a' := ?_) #[true, true, false, false, false, false, false, false, false, false, false, false, false, false, false, false] rfl rfl (any_of HT_.out (by kernel_rfl)) (fun _ _ _ h => h) (Or.inl ⟨by rfl, ?_⟩) ?_ ?_
           rotate_left
           ·intro w'
            go_simp
            with_reducible rfl
           rotate_left
           ·simp only [Act.put, List.setIfInBounds_toArray, List.set_cons_zero, List.set_cons_succ, i64_w, i32_w]
            rfl
           refine pure_ (i := 2) (N := some 23) (v := ?_) (a' := ?_) #[true, true, true, false, false, false, false, false, false, false, false, false, false, false, false, false] rfl rfl (any_of HT_.out (by kernel_rfl)) (fun _ _ _ h => h) (Or.inl ⟨by rfl, ?_⟩) ?_ ?_
           rotate_left
           ·intro w'
            go_simp
            with_reducible rfl
           rotate_left
           ·simp only [Act.put, List.setIfInBounds_toArray, List.set_cons_zero, List.set_cons_succ, i64_w, i32_w]
            rfl
           refine pure_ (i := 3) (N := some 24) (v := ?_) (a' := ?_) #[true, true, true, true, false, false, false, false, false, false, false, false, false, false, false, false] rfl rfl (any_of HT_.out (by kernel_rfl)) (fun _ _ _ h => h) (Or.inl ⟨by rfl, ?_⟩) ?_ ?_
           rotate_left
           ·intro w'
            go_simp
            with_reducible rfl
           rotate_left
           ·simp only [Act.put, List.setIfInBounds_toArray, List.set_cons_zero, List.set_cons_succ, i64_w, i32_w]
            rfl
           refine pure_ (i := 4) (N := some 25) (v := ?_) (a' := ?_) #[true, true, true, true, true, false, false, false, false, false, false, false, false, false, false, false] rfl rfl (any_of HT_.out (by kernel_rfl)) (fun _ _ _ h => h) (Or.inl ⟨by rfl, ?_⟩) ?_ ?_
           rotate_left
           ·intro w'
            go_simp
            with_reducible rfl
           rotate_left
           ·simp only [Act.put, List.setIfInBounds_toArray, List.set_cons_zero, List.set_cons_succ, i64_w, i32_w]
            rfl
           refine pure_ (i := 5) (N := some 26) (v := ?_) (a' := ?_) #[true, true, true, true, true, true, false, false, false, false, false, false, false, false, false, false] rfl rfl (any_of HT_.out (by kernel_rfl)) (fun _ _ _ h => h) (Or.inl ⟨by rfl, ?_⟩) ?_ ?_
           rotate_left
           ·intro w'
            go_simp
            with_reducible rfl
           rotate_left
           ·simp only [Act.put, List.setIfInBounds_toArray, List.set_cons_zero, List.set_cons_succ, i64_w, i32_w]
            rfl
           refine pure_ (i := 8) (N := some 29) (v := ?_) (a' := ?_) #[true, true, true, true, true, true, false, false, true, false, false, false, false, false, false, false] rfl rfl (any_of HT_.out (by kernel_rfl)) (fun _ _ _ h => h) (Or.inl ⟨by rfl, ?_⟩) ?_ ?_
           rotate_left
           ·intro w'
            go_simp
            with_reducible rfl
           rotate_left
           ·simp only [Act.put, List.setIfInBounds_toArray, List.set_cons_zero, List.set_cons_succ, i64_w, i32_w]
            rfl
           refine pure_ (i := 9) (N := some 30) (v := ?_) (a' := ?_) #[true, true, true, true, true, true, false, false, true, true, false, false, false, false, false, false] rfl rfl (any_of HT_.out (by kernel_rfl)) (fun _ _ _ h => h) (Or.inl ⟨by rfl, ?_⟩) ?_ ?_
           rotate_left
           ·intro w'
            go_simp
            with_reducible rfl
           rotate_left
           ·simp only [Act.put, List.setIfInBounds_toArray, List.set_cons_zero, List.set_cons_succ, i64_w, i32_w]
            rfl
           refine pure_ (i := 10) (N := some 31) (v := ?_) (a' := ?_) #[true, true, true, true, true, true, false, false, true, true, true, false, false, false, false, false] rfl rfl (any_of HT_.out (by kernel_rfl)) (fun _ _ _ h => h) (Or.inl ⟨by rfl, ?_⟩) ?_ ?_
           rotate_left
           ·intro w'
            go_simp
            with_reducible rfl
           rotate_left
           ·simp only [Act.put, List.setIfInBounds_toArray, List.set_cons_zero, List.set_cons_succ, i64_w, i32_w]
            rfl
           refine take_ (i := 6) (N := some 27) (v := ?_) (a' := ?_) #[true, true, true, true, true, true, true, false, true, true, true, false, false, false, false, false] rfl rfl (take_ofW HT_.out HW_.out (by kernel_rfl)) (fun _ _ _ h => h) (Or.inl ⟨by rfl, ?_⟩) hHeld ?_ ?_
           rotate_left
           ·rintro w' ⟨s0, s1, s2⟩
            go_simp
            with_reducible rfl
           rotate_left
           ·simp only [Act.put, List.setIfInBounds_toArray, List.set_cons_zero, List.set_cons_succ, i64_w, i32_w]
            rfl
           refine take_ (i := 11) (N := some 32) (v := ?_) (a' := ?_) #[true, true, true, true, true, true, true, false, true, true, true, true, false, false, false, false] rfl rfl (take_ofW HT_.out HW_.out (by kernel_rfl)) (fun _ _ _ h => h) (Or.inl ⟨by rfl, ?_⟩) hHeld ?_ ?_
           rotate_left
           ·rintro w' ⟨s0, s1, s2⟩
            go_simp
            with_reducible rfl
           rotate_left
           ·simp only [Act.put, List.setIfInBounds_toArray, List.set_cons_zero, List.set_cons_succ, i64_w, i32_w]
            rfl
           refine one_ (i := 7) (N := some 28) #[true, true, true, true, true, true, true, true, true, true, true, true, false, false, false, false] rfl rfl (one_of HT_.out (by kernel_rfl)) (by decide) (fun K hK => ?_)
           refine goes_ Tryz.func19 (by kernel_rfl) rfl #[.string ((rd_T37 l0 x6_1).f0)] (by rfl) rfl rfl (by (try simp only [List.map_toArray, List.map_cons, List.map_nil]); first | done | rfl | (simp only [List.length_drop, List.length_take]; rfl)) ?_
           with_reducible refine (lockageref05_Lower.calls k2 ((rd_T37 l0 x6_1).f0) t592 _ A8.out).mono ?_
           rintro e w12 ⟨rfl, hb⟩
           refine ⟨_, rfl, ?_⟩
           have n0_ := Aside0.mk (Kd.R_below (by (with_reducible repeat (first | apply Kd.R_alloc | apply Kd.R_drewN | apply Kd.R_drew)); exact HO_5.out) hb)
           have n1_ := Aside0.mk (below_step (by repeat (first | (with_reducible first | exact HB.out | apply below_alloc | apply pw_below_drewN | apply below_drew1) | exact HB.out)) hb)
           clear HO_5
           clear HB
           have HO_5 := n0_
           have HB := n1_
           clear n0_ n1_
           (try clear hb)
           (try clear hb2)
           (try clear hk)
           (try clear hi)
           refine hK.out _ _ ⟨((HB.out.cell (World.block_lt_of_cell? w _ hw591_0)).trans hw591_0), ((HB.out.cell (World.block_lt_of_cell? w _ hw591_1)).trans hw591_1), ((HB.out.cell (World.block_lt_of_cell? w _ hw593_0)).trans hw593_0)⟩ (fun hHeld => ?_)
           clear hK K
           refine norm_ (a' := ?_) ?_ ?_
           rotate_left
           ·show Act.put _ (some 28) _ = _
            simp only [Act.put, List.setIfInBounds_toArray, List.set_cons_zero, List.set_cons_succ, i64_w, i32_w]
            rfl
           refine one_ (i := 12) (N := some 33) #[true, true, true, true, true, true, true, true, true, true, true, true, true, false, false, false] rfl rfl (one_of HT_.out (by kernel_rfl)) (by decide) (fun K hK => ?_)
           refine goes_ Tryz.func19 (by kernel_rfl) rfl #[.string (rdOf ByteArray.empty l1 x8_2)] (by rfl) rfl rfl (by (try simp only [List.map_toArray, List.map_cons, List.map_nil]); first | done | rfl | (simp only [List.length_drop, List.length_take]; rfl)) ?_
           with_reducible refine (lockageref05_Lower.calls k2 (rdOf ByteArray.empty l1 x8_2) t594 _ A10.out).mono ?_
           rintro e w13 ⟨rfl, hb⟩
           refine ⟨_, rfl, ?_⟩
           have n0_ := Aside0.mk (Kd.R_below (by (with_reducible repeat (first | apply Kd.R_alloc | apply Kd.R_drewN | apply Kd.R_drew)); exact HO_5.out) hb)
           have n1_ := Aside0.mk (below_step (by repeat (first | (with_reducible first | exact HB.out | apply below_alloc | apply pw_below_drewN | apply below_drew1) | exact HB.out)) hb)
           clear HO_5
           clear HB
           have HO_5 := n0_
           have HB := n1_
           clear n0_ n1_
           (try clear hb)
           (try clear hb2)
           (try clear hk)
           (try clear hi)
           refine hK.out _ _ ⟨((HB.out.cell (World.block_lt_of_cell? w _ hw591_0)).trans hw591_0), ((HB.out.cell (World.block_lt_of_cell? w _ hw591_1)).trans hw591_1), ((HB.out.cell (World.block_lt_of_cell? w _ hw593_0)).trans hw593_0)⟩ (fun hHeld => ?_)
           clear hK K
           refine norm_ (a' := ?_) ?_ ?_
           rotate_left
           ·show Act.put _ (some 33) _ = _
            simp only [Act.put, List.setIfInBounds_toArray, List.set_cons_zero, List.set_cons_succ, i64_w, i32_w]
            rfl
           refine pure_ (i := 13) (N := some 34) (v := ?_) (a' := ?_) #[true, true, true, true, true, true, true, true, true, true, true, true, true, true, false, false] rfl rfl (any_of HT_.out (by kernel_rfl)) (fun _ _ _ h => h) (Or.inl ⟨by rfl, ?_⟩) ?_ ?_
           rotate_left
           ·intro w'
            go_simp
            with_reducible rfl
           rotate_left
           ·simp only [Act.put, List.setIfInBounds_toArray, List.set_cons_zero, List.set_cons_succ, i64_w, i32_w]
            rfl
           refine pure_ (i := 14) (N := some 35) (v := ?_) (a' := ?_) #[true, true, true, true, true, true, true, true, true, true, true, true, true, true, true, false] rfl rfl (any_of HT_.out (by kernel_rfl)) (fun _ _ _ h => h) (Or.inl ⟨by rfl, ?_⟩) ?_ ?_
           rotate_left
           ·intro w'
            go_simp
            with_reducible rfl
           rotate_left
           ·simp only [Act.put, List.setIfInBounds_toArray, List.set_cons_zero, List.set_cons_succ, i64_w, i32_w]
            rfl
           refine pure_ (i := 15) (N := some 7) (v := ?_) (a' := ?_) #[true, true, true, true, true, true, true, true, true, true, true, true, true, true, true, true] rfl rfl (any_of HT_.out (by kernel_rfl)) (fun _ _ _ h => h) (Or.inl ⟨by rfl, ?_⟩) ?_ ?_
           rotate_left
           ·intro w'
            go_simp
            with_reducible rfl
           rotate_left
           ·simp only [Act.put, List.setIfInBounds_toArray, List.set_cons_zero, List.set_cons_succ, i64_w, i32_w]
            rfl
           refine done_ (done_of HT_.out (by kernel_rfl)) ?_
           try go_wp2
           go_roundg k2
           case measure => have := HK1.out; have := HK2.out; omega
           case rel => exact ⟨((t592.toList != t594.toList)), (wrap64 (x8_2 + 1)), (by first | rfl | (simp; done) | (simp [*]; done)), (by first | rfl | (simp; done) | (simp [*]; done)), H', ⟨by have := HK1.out; have := HK2.out; omega⟩, ⟨by (with_reducible repeat (first | apply Kd.R_alloc | apply Kd.R_drewN | apply Kd.R_drew)); exact HO_5.out⟩, ⟨by repeat (first | (with_reducible first | exact HB.out | apply below_alloc | apply pw_below_drewN | apply below_drew1) | exact HB.out)⟩⟩
          ·rw [if_neg c9] at H
           exact absurd H (by simp)
         ·rw [if_neg c7] at H
          exact absurd H (by simp)
        ·rw [if_neg c6] at H
         exact absurd H (by simp)
       ·replace c5 := Bool.eq_false_iff.mpr c5
        subst c5
        have H1 : (lockageref05_Drop.l1 k2 l0 l1 x5_1 x6_1 false (wrap64 (x8_2 + 1))) = some r := by rw [if_neg (show ¬ (false = true) by decide)] at H; exact H
        clear H
        have H := H1
        clear H1
        have H' := Aside0.mk H
        clear H
        try go_wp2
        have n0_ := Aside0.mk (Kd.R_drew HO_5.out)
        have n1_ := Aside0.mk (below_drew1 HB.out)
        clear HO_5
        clear HB
        have HO_5 := n0_
        have HB := n1_
        clear n0_ n1_
        refine start_ (n := 16) (S := fun w' => True) (ds := []) #[false, false, false, false, false, false, false, false, false, false, false, false, false, false, false, false] (by kernel_rfl) rfl rfl trivial (fun hHeld => ?_); refine with_tabW lockageref05_Drop.tab9 lockageref05_Drop.bits9 (fun HT_ HW_ => ?_)
        generalize wr.drew = w14 at HO_5 HB hHeld ⊢
        refine pure_ (i := 0) (N := some 21) (v := ?_) (a' := ?_) #[true, false, false, false, false, false, false, false, false, false, false, false, false, false, false, false] rfl rfl (any_of HT_.out (by kernel_rfl)) (fun _ _ _ h => h) (Or.inl ⟨by rfl, ?_⟩) ?_ ?_
        rotate_left
        ·intro w'
         go_simp
         with_reducible rfl
        rotate_left
        ·simp only [Act.put, List.setIfInBounds_toArray, List.set_cons_zero, List.set_cons_succ, i64_w, i32_w]
         rfl
        refine pure_ (i := 1) (N := some 22) (v := ?_) (a' := ?_) #[true, true, false, false, false, false, false, false, false, false, false, false, false, false, false, false] rfl rfl (any_of HT_.out (by kernel_rfl)) (fun _ _ _ h => h) (Or.inl ⟨by rfl, ?_⟩) ?_ ?_
        rotate_left
        ·intro w'
         go_simp
         with_reducible rfl
        rotate_left
        ·simp only [Act.put, List.setIfInBounds_toArray, List.set_cons_zero, List.set_cons_succ, i64_w, i32_w]
         rfl
        refine pure_ (i := 2) (N := some 23) (v := undef) (a' := ?_) #[true, true, true, false, false, false, false, false, false, false, false, false, false, false, false, false] rfl rfl (any_of HT_.out (by kernel_rfl)) (fun _ _ _ h => h) (Or.inr ⟨by rfl, rfl⟩) ?_ ?_
        rotate_left
        ·simp only [Act.put, List.setIfInBounds_toArray, List.set_cons_zero, List.set_cons_succ, i64_w, i32_w]
         rfl
        refine pure_ (i := 3) (N := some 24) (v := undef) (a' := ?_) #[true, true, true, true, false, false, false, false, false, false, false, false, false, false, false, false] rfl rfl (any_of HT_.out (by kernel_rfl)) (fun _ _ _ h => h) (Or.inr ⟨by rfl, rfl⟩) ?_ ?_
        rotate_left
        ·simp only [Act.put, List.setIfInBounds_toArray, List.set_cons_zero, List.set_cons_succ, i64_w, i32_w]
         rfl
        refine pure_ (i := 4) (N := some 25) (v := undef) (a' := ?_) #[true, true, true, true, true, false, false, false, false, false, false, false, false, false, false, false] rfl rfl (any_of HT_.out (by kernel_rfl)) (fun _ _ _ h => h) (Or.inr ⟨by rfl, rfl⟩) ?_ ?_
        rotate_left
        ·simp only [Act.put, List.setIfInBounds_toArray, List.set_cons_zero, List.set_cons_succ, i64_w, i32_w]
         rfl
        refine pure_ (i := 5) (N := some 26) (v := undef) (a' := ?_) #[true, true, true, true, true, true, false, false, false, false, false, false, false, false, false, false] rfl rfl (any_of HT_.out (by kernel_rfl)) (fun _ _ _ h => h) (Or.inr ⟨by rfl, rfl⟩) ?_ ?_
        rotate_left
        ·simp only [Act.put, List.setIfInBounds_toArray, List.set_cons_zero, List.set_cons_succ, i64_w, i32_w]
         rfl
        refine pure_ (i := 6) (N := some 27) (v := undef) (a' := ?_) #[true, true, true, true, true, true, true, false, false, false, false, false, false, false, false, false] rfl rfl (any_of HT_.out (by kernel_rfl)) (fun _ _ _ h => h) (Or.inr ⟨by rfl, rfl⟩) ?_ ?_
        rotate_left
        ·simp only [Act.put, List.setIfInBounds_toArray, List.set_cons_zero, List.set_cons_succ, i64_w, i32_w]
         rfl
        refine pure_ (i := 7) (N := some 28) (v := undef) (a' := ?_) #[true, true, true, true, true, true, true, true, false, false, false, false, false, false, false, false] rfl rfl (any_of HT_.out (by kernel_rfl)) (fun _ _ _ h => h) (Or.inr ⟨by rfl, rfl⟩) ?_ ?_
        rotate_left
        ·simp only [Act.put, List.setIfInBounds_toArray, List.set_cons_zero, List.set_cons_succ, i64_w, i32_w]
         rfl
        refine pure_ (i := 8) (N := some 29) (v := undef) (a' := ?_) #[true, true, true, true, true, true, true, true, true, false, false, false, false, false, false, false] rfl rfl (any_of HT_.out (by kernel_rfl)) (fun _ _ _ h => h) (Or.inr ⟨by rfl, rfl⟩) ?_ ?_
        rotate_left
        ·simp only [Act.put, List.setIfInBounds_toArray, List.set_cons_zero, List.set_cons_succ, i64_w, i32_w]
         rfl
        refine pure_ (i := 9) (N := some 30) (v := undef) (a' := ?_) #[true, true, true, true, true, true, true, true, true, true, false, false, false, false, false, false] rfl rfl (any_of HT_.out (by kernel_rfl)) (fun _ _ _ h => h) (Or.inr ⟨by rfl, rfl⟩) ?_ ?_
        rotate_left
        ·simp only [Act.put, List.setIfInBounds_toArray, List.set_cons_zero, List.set_cons_succ, i64_w, i32_w]
         rfl
        refine pure_ (i := 10) (N := some 31) (v := undef) (a' := ?_) #[true, true, true, true, true, true, true, true, true, true, true, false, false, false, false, false] rfl rfl (any_of HT_.out (by kernel_rfl)) (fun _ _ _ h => h) (Or.inr ⟨by rfl, rfl⟩) ?_ ?_
        rotate_left
        ·simp only [Act.put, List.setIfInBounds_toArray, List.set_cons_zero, List.set_cons_succ, i64_w, i32_w]
         rfl
        refine pure_ (i := 11) (N := some 32) (v := undef) (a' := ?_) #[true, true, true, true, true, true, true, true, true, true, true, true, false, false, false, false] rfl rfl (any_of HT_.out (by kernel_rfl)) (fun _ _ _ h => h) (Or.inr ⟨by rfl, rfl⟩) ?_ ?_
        rotate_left
        ·simp only [Act.put, List.setIfInBounds_toArray, List.set_cons_zero, List.set_cons_succ, i64_w, i32_w]
         rfl
        refine pure_ (i := 12) (N := some 33) (v := undef) (a' := ?_) #[true, true, true, true, true, true, true, true, true, true, true, true, true, false, false, false] rfl rfl (any_of HT_.out (by kernel_rfl)) (fun _ _ _ h => h) (Or.inr ⟨by rfl, rfl⟩) ?_ ?_
        rotate_left
        ·simp only [Act.put, List.setIfInBounds_toArray, List.set_cons_zero, List.set_cons_succ, i64_w, i32_w]
         rfl
        refine pure_ (i := 13) (N := some 34) (v := undef) (a' := ?_) #[true, true, true, true, true, true, true, true, true, true, true, true, true, true, false, false] rfl rfl (any_of HT_.out (by kernel_rfl)) (fun _ _ _ h => h) (Or.inr ⟨by rfl, rfl⟩) ?_ ?_
        rotate_left
        ·simp only [Act.put, List.setIfInBounds_toArray, List.set_cons_zero, List.set_cons_succ, i64_w, i32_w]
         rfl
        refine pure_ (i := 14) (N := some 35) (v := ?_) (a' := ?_) #[true, true, true, true, true, true, true, true, true, true, true, true, true, true, true, false] rfl rfl (any_of HT_.out (by kernel_rfl)) (fun _ _ _ h => h) (Or.inl ⟨by rfl, ?_⟩) ?_ ?_
        rotate_left
        ·intro w'
         go_simp
         with_reducible rfl
        rotate_left
        ·simp only [Act.put, List.setIfInBounds_toArray, List.set_cons_zero, List.set_cons_succ, i64_w, i32_w]
         rfl
        refine pure_ (i := 15) (N := some 7) (v := ?_) (a' := ?_) #[true, true, true, true, true, true, true, true, true, true, true, true, true, true, true, true] rfl rfl (any_of HT_.out (by kernel_rfl)) (fun _ _ _ h => h) (Or.inl ⟨by rfl, ?_⟩) ?_ ?_
        rotate_left
        ·intro w'
         go_simp
         with_reducible rfl
        rotate_left
        ·simp only [Act.put, List.setIfInBounds_toArray, List.set_cons_zero, List.set_cons_succ, i64_w, i32_w]
         rfl
        refine done_ (done_of HT_.out (by kernel_rfl)) ?_
        try go_wp2
        go_roundg k2
        case measure => have := HK1.out; have := HK2.out; omega
        case rel => exact ⟨(false), (wrap64 (x8_2 + 1)), (by first | rfl | (simp; done) | (simp [*]; done)), (by first | rfl | (simp; done) | (simp [*]; done)), H', ⟨by have := HK1.out; have := HK2.out; omega⟩, ⟨by (with_reducible repeat (first | apply Kd.R_alloc | apply Kd.R_drewN | apply Kd.R_drew)); exact HO_5.out⟩, ⟨by repeat (first | (with_reducible first | exact HB.out | apply below_alloc | apply pw_below_drewN | apply below_drew1) | exact HB.out)⟩⟩
      ·rw [if_neg c4] at H
       have c4b0 : decide (x8_2 < (l1.length : Int)) = false := decide_eq_false c4
       clear c4
       by_cases c15 : x7_2 = true
       ·subst c15
        have H1 : (if 0 ≤ x6_1 then (if x6_1 < (l0.length : Int) then (if x5_1.length < 4398046511104 then (lockageref05_Drop.l0 k2 l0 l1 (x5_1 ++ [(⟨(rd_T37 l0 x6_1).f0, (rd_T37 l0 x6_1).f1⟩ : S37)]) (wrap64 (x6_1 + 1))) else (none)) else (none)) else (none)) = some r := by rw [if_pos rfl] at H; exact H
        clear H
        have H := H1
        clear H1
        by_cases c16 : 0 ≤ x6_1
        ·rw [if_pos c16] at H
         have c16b0 : decide (0 ≤ x6_1) = true := decide_eq_true c16
         clear c16
         by_cases c17 : x6_1 < (l0.length : Int)
         ·rw [if_pos c17] at H
          have c17b0 : decide (x6_1 < (l0.length : Int)) = true := decide_eq_true c17
          clear c17
          by_cases c18 : x5_1.length < 4398046511104
          ·rw [if_pos c18] at H
           have LMc18 := Aside0.mk c18
           clear c18
           obtain ⟨y596, hy596⟩ : ∃ y_ : List (S37), y_ = (x5_1 ++ [(⟨(rd_T37 l0 x6_1).f0, (rd_T37 l0 x6_1).f1⟩ : S37)]) := ⟨_, rfl⟩
           replace H : (lockageref05_Drop.l0 k2 l0 l1 y596 (wrap64 (x6_1 + 1))) = some r := by first | (rw [hy596]; with_reducible exact H) | (have H2_ := (Option.bind_some _ _).symm.trans H; rw [hy596]; with_reducible exact H2_) | (have H2_ := (Option.bind_some _ _).symm.trans H; with_reducible exact H2_) | with_reducible exact H | (rw [hy596]; exact H) | exact H
           have Ny596 := Aside0.mk hy596
           clear hy596
           have H' := Aside0.mk H
           clear H
           have p595 : 0 ≤ (x6_1 : Int) := of_decide_eq_true (by first | (with_reducible assumption) | assumption)
           have q595 : x6_1 < (l0.length : Int) := of_decide_eq_true (by first | (with_reducible assumption) | assumption)
           obtain ⟨ad595, e595, hx595_0, hx595_1⟩ := at_T37 HR0.out x6_1 p595 q595
           cases e595
           replace hx595_0 := (HB.out.cell (World.block_lt_of_cell? w _ hx595_0)).trans hx595_0
           replace hx595_1 := (HB.out.cell (World.block_lt_of_cell? w _ hx595_1)).trans hx595_1
           replace p595 := eq_true p595
           replace q595 := eq_true q595
           go_wp2_with (first | ((with_reducible refine gate_builtin (b := .append) (xs := #[.tmp 37, .tmp 42]) rfl ?_); at_builtin; refine Kd.R_append k37 (w0 := w) w.heap.size rfl (.tmp 37) (.tmp 42) 22 37 (.agg #[(.string ⟨#[]⟩), (.string ⟨#[]⟩)]) 32 rfl Tryz.underlying22 info37 rfl (by decide) (by omega) u5 x5_1 (⟨(rd_T37 l0 x6_1).f0, (rd_T37 l0 x6_1).f1⟩ : S37) [.string ((rd_T37 l0 x6_1).f0), .string ((rd_T37 l0 x6_1).f1)] (fun _ => True) (fun _ => False) rfl rfl ?aP (fun _ hk => hk.elim) ?aF ?aO ?aB ?aS ?aL ?_; (case aP => exact k37_mkM _ _ _ (⟨(rd_T37 l0 x6_1).f0, (rd_T37 l0 x6_1).f1⟩ : S37)); (case aB => exact (by repeat (first | (with_reducible first | exact HB.out | apply below_alloc | apply pw_below_drewN | apply below_drew1) | exact HB.out))); (case aF => exact (fun _ _ => trivial)); (case aO => exact (by (with_reducible repeat (first | apply Kd.R_alloc | apply Kd.R_drewN | apply Kd.R_drew)); exact HO_5.out)); (case aS => exact (below_size (by repeat (first | (with_reducible first | exact HB.out | apply below_alloc | apply pw_below_drewN | apply below_drew1) | exact HB.out)))); (case aL => have := LMc18.out; omega); intro v597 w19 ho hb hg hat; rw [← Ny596.out] at ho; have n0_ := Aside0.mk (hb); have n1_ := Aside0.mk (ho); clear HB; clear HO_5; have HB := n0_; have HO598 := n1_; clear n0_ n1_; clear ho hb hg hat))
           go_roundg k2
           case measure => have := HK1.out; have := HK2.out; omega
           case rel => exact ⟨(y596), (wrap64 (x6_1 + 1)), (by first | rfl | (simp; done) | (simp [*]; done)), H', ⟨by have := HK1.out; have := HK2.out; omega⟩, ⟨by (with_reducible repeat (first | apply Kd.R_alloc | apply Kd.R_drewN | apply Kd.R_drew)); exact HO598.out⟩, ⟨by repeat (first | (with_reducible first | exact HB.out | apply below_alloc | apply pw_below_drewN | apply below_drew1) | exact HB.out)⟩⟩
          ·rw [if_neg c18] at H
           exact absurd H (by simp)
         ·rw [if_neg c17] at H
          exact absurd H (by simp)
        ·rw [if_neg c16] at H
         exact absurd H (by simp)
       ·replace c15 := Bool.eq_false_iff.mpr c15
        subst c15
        have H1 : (lockageref05_Drop.l0 k2 l0 l1 x5_1 (wrap64 (x6_1 + 1))) = some r := by rw [if_neg (show ¬ (false = true) by decide)] at H; exact H
        clear H
        have H := H1
        clear H1
        have H' := Aside0.mk H
        clear H
        go_wp2
        go_roundg k2
        case measure => have := HK1.out; have := HK2.out; omega
        case rel => exact ⟨(x5_1), (wrap64 (x6_1 + 1)), (by first | rfl | (simp; done) | (simp [*]; done)), H', ⟨by have := HK1.out; have := HK2.out; omega⟩, ⟨by (with_reducible repeat (first | apply Kd.R_alloc | apply Kd.R_drewN | apply Kd.R_drew)); exact HO_5.out⟩, ⟨by repeat (first | (with_reducible first | exact HB.out | apply below_alloc | apply pw_below_drewN | apply below_drew1) | exact HB.out)⟩⟩
   ·rw [if_neg c3] at H
    have c3b0 : decide (x6_1 < (l0.length : Int)) = false := decide_eq_false c3
    clear c3
    obtain rfl := Option.some.inj H
    go_wp2
    go_ret
    exact ⟨_, by first | rfl | (simp [errW_none, errW_some] <;> rfl) | (simp [*, errW_none, errW_some] <;> rfl), by (with_reducible repeat (first | apply Kd.R_alloc | apply Kd.R_drewN | apply Kd.R_drew)); exact HO_5.out, by repeat (first | (with_reducible first | exact HB.out | apply below_alloc | apply pw_below_drewN | apply below_drew1) | exact HB.out)⟩

def lockagelaw16_KeySame.j0 : Nat → Int → Bool → List (S37) → List (S37) → ByteArray → ByteArray → Int → ByteArray → Int → List (S37) → ByteArray → ByteArray → ByteArray → Int → ByteArray → Int → List (S37) → ByteArray → Option (Bool)
 | 0, _, _, _, _, _, _, _, _, _, _, _, _, _, _, _, _, _, _ => none
 | k + 1, x2, x7, x10, x11, x619000, x619001, x619002, x619003, x619004, x619005, x619006, x620000, x620001, x620002, x620003, x620004, x620005, x620006 => (lockageref05_Drop.f k x619005 (([(⟨#[104, 111, 115, 116]⟩ : ByteArray)] : List ByteArray))).bind fun t630 => (if x10.length + t630.length < 4398046511104 then ((lockageref05_Drop.f k x620005 (([(⟨#[104, 111, 115, 116]⟩ : ByteArray)] : List ByteArray))).bind fun t639 => (if t639.length + x11.length < 4398046511104 then ((key_Key.f k (⟨#[71, 69, 84]⟩ : ByteArray) (⟨#[47, 97, 47, 46, 47, 98, 47, 37, 55, 101, 63, 113]⟩ : ByteArray) 0 (⟨#[]⟩ : ByteArray) 1 (x10 ++ t630) x619006).bind fun bt645 => ((key_Key.f k (⟨#[71, 69, 84]⟩ : ByteArray) (⟨#[47, 97, 47, 99, 47, 46, 46, 47, 98, 47, 126, 63, 113]⟩ : ByteArray) 0 (⟨#[]⟩ : ByteArray) 0 (t639 ++ x11) x620006).bind fun bt647 => (if x7 = true then (if bt645.2 = 0 then (if bt647.2 = 0 then (some ((bt645.1.toList == bt647.1.toList) == (decide ((Int.tmod x2 3) > 0)))) else (none)) else (none)) else (none)))) else (none))) else (none))
def lockagelaw16_KeySame.f (k : Nat) (l0 : List Int) (l1 : List Int) (a2 : Int) : Option (Bool) := (lockagelaw16_awake.f k).bind fun t599 => (if t599 = true then ((lockagelaw16_Request.f k l0).bind fun bt600 => ((lockagelaw16_Request.f k l1).bind fun bt609 => ((some (([(⟨(⟨#[72, 111, 115, 116]⟩ : ByteArray), (⟨#[104, 46, 88]⟩ : ByteArray)⟩ : S37)] : List (S37)) : List (S37))).bind fun y620 => ((some (([(⟨(⟨#[72, 79, 83, 84]⟩ : ByteArray), (⟨#[72, 46, 120]⟩ : ByteArray)⟩ : S37)] : List (S37)) : List (S37))).bind fun y623 => (if (Int.tmod a2 3) = 0 then (if 0 < (y623.length : Int) then (lockagelaw16_KeySame.j0 k a2 t599 y620 (y623.set (0 : Int).toNat (⟨(rd_T37 y623 0).f0, (⟨#[111, 116, 104, 101, 114]⟩ : ByteArray)⟩ : S37)) bt600.1 bt600.2.1 bt600.2.2.1 bt600.2.2.2.1 bt600.2.2.2.2.1 bt600.2.2.2.2.2.1 bt600.2.2.2.2.2.2 bt609.1 bt609.2.1 bt609.2.2.1 bt609.2.2.2.1 bt609.2.2.2.2.1 bt609.2.2.2.2.2.1 bt609.2.2.2.2.2.2) else (none)) else (lockagelaw16_KeySame.j0 k a2 t599 y620 y623 bt600.1 bt600.2.1 bt600.2.2.1 bt600.2.2.2.1 bt600.2.2.2.2.1 bt600.2.2.2.2.2.1 bt600.2.2.2.2.2.2 bt609.1 bt609.2.1 bt609.2.2.1 bt609.2.2.2.1 bt609.2.2.2.2.1 bt609.2.2.2.2.2.1 bt609.2.2.2.2.2.2)))))) else (none))
theorem lockagelaw16_KeySame.mono_l : ∀ k, (∀ y0 y1 y2 y3 y4 y5 y6 y7 y8 y9 y10 y11 y12 y13 y14 y15 y16 y17, LeO (lockagelaw16_KeySame.j0 k y0 y1 y2 y3 y4 y5 y6 y7 y8 y9 y10 y11 y12 y13 y14 y15 y16 y17) (lockagelaw16_KeySame.j0 (k + 1) y0 y1 y2 y3 y4 y5 y6 y7 y8 y9 y10 y11 y12 y13 y14 y15 y16 y17))
 | 0 => fun _ _ _ _ _ _ _ _ _ _ _ _ _ _ _ _ _ _ r h => by simp [lockagelaw16_KeySame.j0] at h
 | k + 1 => by
  have ih0 := lockagelaw16_KeySame.mono_l k
  ·intro y0 y1 y2 y3 y4 y5 y6 y7 y8 y9 y10 y11 y12 y13 y14 y15 y16 y17
   unfold lockagelaw16_KeySame.j0
   repeat' first
   | (with_reducible exact ih0 _ _ _ _ _ _ _ _ _ _ _ _ _ _ _ _ _ _)
   | (with_reducible exact key_Key.mono _ _ _ _ _ _ _ _)
   | (with_reducible exact lockagelaw16_Request.mono _ _)
   | (with_reducible exact lockagelaw16_awake.mono _)
   | (with_reducible exact lockageref05_Drop.mono _ _ _)
   | (with_reducible exact LeO.refl _)
   | (with_reducible exact LeO.none _)
   | (with_reducible refine LeO.ite ?_ ?_)
   | (with_reducible refine LeO.bind ?_ (fun _ => ?_))
   | exact ih0 _ _ _ _ _ _ _ _ _ _ _ _ _ _ _ _ _ _
   | exact key_Key.mono _ _ _ _ _ _ _ _
   | exact lockagelaw16_Request.mono _ _
   | exact lockagelaw16_awake.mono _
   | exact lockageref05_Drop.mono _ _ _
   | exact LeO.none _
   | refine LeO.ite ?_ ?_
   | refine LeO.bind ?_ (fun _ => ?_)
theorem lockagelaw16_KeySame.mono : ∀ a0 a1 a2 k, LeO (lockagelaw16_KeySame.f k a0 a1 a2) (lockagelaw16_KeySame.f (k + 1) a0 a1 a2) := by
 intro a0 a1 a2 k
 have ih0 := lockagelaw16_KeySame.mono_l k
 unfold lockagelaw16_KeySame.f
 repeat' first
   | (with_reducible exact ih0 _ _ _ _ _ _ _ _ _ _ _ _ _ _ _ _ _ _)
   | (with_reducible exact key_Key.mono _ _ _ _ _ _ _ _)
   | (with_reducible exact lockagelaw16_Request.mono _ _)
   | (with_reducible exact lockagelaw16_awake.mono _)
   | (with_reducible exact lockageref05_Drop.mono _ _ _)
   | (with_reducible exact LeO.refl _)
   | (with_reducible exact LeO.none _)
   | (with_reducible refine LeO.ite ?_ ?_)
   | (with_reducible refine LeO.bind ?_ (fun _ => ?_))
   | exact ih0 _ _ _ _ _ _ _ _ _ _ _ _ _ _ _ _ _ _
   | exact key_Key.mono _ _ _ _ _ _ _ _
   | exact lockagelaw16_Request.mono _ _
   | exact lockagelaw16_awake.mono _
   | exact lockageref05_Drop.mono _ _ _
   | exact LeO.none _
   | refine LeO.ite ?_ ?_
   | refine LeO.bind ?_ (fun _ => ?_)
set_option maxHeartbeats 8000000 in
set_option maxRecDepth 100000 in
theorem lockagelaw16_KeySame.calls (k : Nat) (A0 : Option Addr) (c0 : Nat) (l0 : List Int) (A1 : Option Addr) (c1 : Nat) (l1 : List Int) (a2 : Int) (r : Bool) (w : World) (hr0 : Kd.C (Kd.int .u8) w A0 l0.length l0) (hc0 : l0.length ≤ c0) (hr1 : Kd.C (Kd.int .u8) w A1 l1.length l1) (hc1 : l1.length ≤ c1) (h : lockagelaw16_KeySame.f k l0 l1 a2 = some r) :
  Calls Tryz.prog 8 #[.slice A0 l0.length c0, .slice A1 l1.length c1, .int .u8 a2] w fun e w' => e = .returned (.bool r) ∧ Below w.heap.size w w' := by
 have hu26 := Tryz.underlying26
 have hu37 := Tryz.underlying37
 have hu24 := Tryz.underlying24
 have HR0 := Aside0.mk hr0
 have HC0 := Aside0.mk hc0
 clear hr0 hc0
 have HR1 := Aside0.mk hr1
 have HC1 := Aside0.mk hc1
 clear hr1 hc1
 have HB := Aside0.mk (Below.refl w.heap.size w)
 have H : ((lockagelaw16_awake.f k).bind fun t599 => (if t599 = true then ((lockagelaw16_Request.f k l0).bind fun bt600 => ((lockagelaw16_Request.f k l1).bind fun bt609 => ((some (([(⟨(⟨#[72, 111, 115, 116]⟩ : ByteArray), (⟨#[104, 46, 88]⟩ : ByteArray)⟩ : S37)] : List (S37)) : List (S37))).bind fun y620 => ((some (([(⟨(⟨#[72, 79, 83, 84]⟩ : ByteArray), (⟨#[72, 46, 120]⟩ : ByteArray)⟩ : S37)] : List (S37)) : List (S37))).bind fun y623 => (if (Int.tmod a2 3) = 0 then (if 0 < (y623.length : Int) then (lockagelaw16_KeySame.j0 k a2 t599 y620 (y623.set (0 : Int).toNat (⟨(rd_T37 y623 0).f0, (⟨#[111, 116, 104, 101, 114]⟩ : ByteArray)⟩ : S37)) bt600.1 bt600.2.1 bt600.2.2.1 bt600.2.2.2.1 bt600.2.2.2.2.1 bt600.2.2.2.2.2.1 bt600.2.2.2.2.2.2 bt609.1 bt609.2.1 bt609.2.2.1 bt609.2.2.2.1 bt609.2.2.2.2.1 bt609.2.2.2.2.2.1 bt609.2.2.2.2.2.2) else (none)) else (lockagelaw16_KeySame.j0 k a2 t599 y620 y623 bt600.1 bt600.2.1 bt600.2.2.1 bt600.2.2.2.1 bt600.2.2.2.2.1 bt600.2.2.2.2.2.1 bt600.2.2.2.2.2.2 bt609.1 bt609.2.1 bt609.2.2.1 bt609.2.2.2.1 bt609.2.2.2.2.1 bt609.2.2.2.2.2.1 bt609.2.2.2.2.2.2)))))) else (none))) = some r := h
 clear h
 replace H := Option.bind_eq_some_iff.mp H
 obtain ⟨t599, A40, H⟩ := H
 replace H : (if t599 = true then ((lockagelaw16_Request.f k l0).bind fun bt600 => ((lockagelaw16_Request.f k l1).bind fun bt609 => ((some (([(⟨(⟨#[72, 111, 115, 116]⟩ : ByteArray), (⟨#[104, 46, 88]⟩ : ByteArray)⟩ : S37)] : List (S37)) : List (S37))).bind fun y620 => ((some (([(⟨(⟨#[72, 79, 83, 84]⟩ : ByteArray), (⟨#[72, 46, 120]⟩ : ByteArray)⟩ : S37)] : List (S37)) : List (S37))).bind fun y623 => (if (Int.tmod a2 3) = 0 then (if 0 < (y623.length : Int) then (lockagelaw16_KeySame.j0 k a2 t599 y620 (y623.set (0 : Int).toNat (⟨(rd_T37 y623 0).f0, (⟨#[111, 116, 104, 101, 114]⟩ : ByteArray)⟩ : S37)) bt600.1 bt600.2.1 bt600.2.2.1 bt600.2.2.2.1 bt600.2.2.2.2.1 bt600.2.2.2.2.2.1 bt600.2.2.2.2.2.2 bt609.1 bt609.2.1 bt609.2.2.1 bt609.2.2.2.1 bt609.2.2.2.2.1 bt609.2.2.2.2.2.1 bt609.2.2.2.2.2.2) else (none)) else (lockagelaw16_KeySame.j0 k a2 t599 y620 y623 bt600.1 bt600.2.1 bt600.2.2.1 bt600.2.2.2.1 bt600.2.2.2.2.1 bt600.2.2.2.2.2.1 bt600.2.2.2.2.2.2 bt609.1 bt609.2.1 bt609.2.2.1 bt609.2.2.2.1 bt609.2.2.2.2.1 bt609.2.2.2.2.2.1 bt609.2.2.2.2.2.2)))))) else (none)) = some r := H
 have A4 := Aside0.mk A40
 clear A40
 by_cases c5 : t599 = true
 ·subst c5
  have H1 : ((lockagelaw16_Request.f k l0).bind fun bt600 => ((lockagelaw16_Request.f k l1).bind fun bt609 => ((some (([(⟨(⟨#[72, 111, 115, 116]⟩ : ByteArray), (⟨#[104, 46, 88]⟩ : ByteArray)⟩ : S37)] : List (S37)) : List (S37))).bind fun y620 => ((some (([(⟨(⟨#[72, 79, 83, 84]⟩ : ByteArray), (⟨#[72, 46, 120]⟩ : ByteArray)⟩ : S37)] : List (S37)) : List (S37))).bind fun y623 => (if (Int.tmod a2 3) = 0 then (if 0 < (y623.length : Int) then (lockagelaw16_KeySame.j0 k a2 true y620 (y623.set (0 : Int).toNat (⟨(rd_T37 y623 0).f0, (⟨#[111, 116, 104, 101, 114]⟩ : ByteArray)⟩ : S37)) bt600.1 bt600.2.1 bt600.2.2.1 bt600.2.2.2.1 bt600.2.2.2.2.1 bt600.2.2.2.2.2.1 bt600.2.2.2.2.2.2 bt609.1 bt609.2.1 bt609.2.2.1 bt609.2.2.2.1 bt609.2.2.2.2.1 bt609.2.2.2.2.2.1 bt609.2.2.2.2.2.2) else (none)) else (lockagelaw16_KeySame.j0 k a2 true y620 y623 bt600.1 bt600.2.1 bt600.2.2.1 bt600.2.2.2.1 bt600.2.2.2.2.1 bt600.2.2.2.2.2.1 bt600.2.2.2.2.2.2 bt609.1 bt609.2.1 bt609.2.2.1 bt609.2.2.2.1 bt609.2.2.2.2.1 bt609.2.2.2.2.2.1 bt609.2.2.2.2.2.2)))))) = some r := by rw [if_pos rfl] at H; exact H
  clear H
  have H := H1
  clear H1
  replace H := Option.bind_eq_some_iff.mp H
  obtain ⟨⟨t600, t601, t602, t603, t604, t605, t608⟩, A60, H⟩ := H
  replace H : ((lockagelaw16_Request.f k l1).bind fun bt609 => ((some (([(⟨(⟨#[72, 111, 115, 116]⟩ : ByteArray), (⟨#[104, 46, 88]⟩ : ByteArray)⟩ : S37)] : List (S37)) : List (S37))).bind fun y620 => ((some (([(⟨(⟨#[72, 79, 83, 84]⟩ : ByteArray), (⟨#[72, 46, 120]⟩ : ByteArray)⟩ : S37)] : List (S37)) : List (S37))).bind fun y623 => (if (Int.tmod a2 3) = 0 then (if 0 < (y623.length : Int) then (lockagelaw16_KeySame.j0 k a2 true y620 (y623.set (0 : Int).toNat (⟨(rd_T37 y623 0).f0, (⟨#[111, 116, 104, 101, 114]⟩ : ByteArray)⟩ : S37)) t600 t601 t602 t603 t604 t605 t608 bt609.1 bt609.2.1 bt609.2.2.1 bt609.2.2.2.1 bt609.2.2.2.2.1 bt609.2.2.2.2.2.1 bt609.2.2.2.2.2.2) else (none)) else (lockagelaw16_KeySame.j0 k a2 true y620 y623 t600 t601 t602 t603 t604 t605 t608 bt609.1 bt609.2.1 bt609.2.2.1 bt609.2.2.2.1 bt609.2.2.2.2.1 bt609.2.2.2.2.2.1 bt609.2.2.2.2.2.2))))) = some r := H
  have A6 := Aside0.mk A60
  clear A60
  replace H := Option.bind_eq_some_iff.mp H
  obtain ⟨⟨t609, t610, t611, t612, t613, t614, t617⟩, A70, H⟩ := H
  replace H : ((some (([(⟨(⟨#[72, 111, 115, 116]⟩ : ByteArray), (⟨#[104, 46, 88]⟩ : ByteArray)⟩ : S37)] : List (S37)) : List (S37))).bind fun y620 => ((some (([(⟨(⟨#[72, 79, 83, 84]⟩ : ByteArray), (⟨#[72, 46, 120]⟩ : ByteArray)⟩ : S37)] : List (S37)) : List (S37))).bind fun y623 => (if (Int.tmod a2 3) = 0 then (if 0 < (y623.length : Int) then (lockagelaw16_KeySame.j0 k a2 true y620 (y623.set (0 : Int).toNat (⟨(rd_T37 y623 0).f0, (⟨#[111, 116, 104, 101, 114]⟩ : ByteArray)⟩ : S37)) t600 t601 t602 t603 t604 t605 t608 t609 t610 t611 t612 t613 t614 t617) else (none)) else (lockagelaw16_KeySame.j0 k a2 true y620 y623 t600 t601 t602 t603 t604 t605 t608 t609 t610 t611 t612 t613 t614 t617)))) = some r := H
  have A7 := Aside0.mk A70
  clear A70
  obtain ⟨y620, hy620⟩ : ∃ y_ : List (S37), y_ = (([(⟨(⟨#[72, 111, 115, 116]⟩ : ByteArray), (⟨#[104, 46, 88]⟩ : ByteArray)⟩ : S37)] : List (S37))) := ⟨_, rfl⟩
  replace H : ((some (([(⟨(⟨#[72, 79, 83, 84]⟩ : ByteArray), (⟨#[72, 46, 120]⟩ : ByteArray)⟩ : S37)] : List (S37)) : List (S37))).bind fun y623 => (if (Int.tmod a2 3) = 0 then (if 0 < (y623.length : Int) then (lockagelaw16_KeySame.j0 k a2 true y620 (y623.set (0 : Int).toNat (⟨(rd_T37 y623 0).f0, (⟨#[111, 116, 104, 101, 114]⟩ : ByteArray)⟩ : S37)) t600 t601 t602 t603 t604 t605 t608 t609 t610 t611 t612 t613 t614 t617) else (none)) else (lockagelaw16_KeySame.j0 k a2 true y620 y623 t600 t601 t602 t603 t604 t605 t608 t609 t610 t611 t612 t613 t614 t617))) = some r := by first | (rw [hy620]; with_reducible exact H) | (have H2_ := (Option.bind_some _ _).symm.trans H; rw [hy620]; with_reducible exact H2_) | (have H2_ := (Option.bind_some _ _).symm.trans H; with_reducible exact H2_) | with_reducible exact H | (rw [hy620]; exact H) | exact H
  have Ny620 := Aside0.mk hy620
  clear hy620
  obtain ⟨y623, hy623⟩ : ∃ y_ : List (S37), y_ = (([(⟨(⟨#[72, 79, 83, 84]⟩ : ByteArray), (⟨#[72, 46, 120]⟩ : ByteArray)⟩ : S37)] : List (S37))) := ⟨_, rfl⟩
  replace H : (if (Int.tmod a2 3) = 0 then (if 0 < (y623.length : Int) then (lockagelaw16_KeySame.j0 k a2 true y620 (y623.set (0 : Int).toNat (⟨(rd_T37 y623 0).f0, (⟨#[111, 116, 104, 101, 114]⟩ : ByteArray)⟩ : S37)) t600 t601 t602 t603 t604 t605 t608 t609 t610 t611 t612 t613 t614 t617) else (none)) else (lockagelaw16_KeySame.j0 k a2 true y620 y623 t600 t601 t602 t603 t604 t605 t608 t609 t610 t611 t612 t613 t614 t617)) = some r := by first | (rw [hy623]; with_reducible exact H) | (have H2_ := (Option.bind_some _ _).symm.trans H; rw [hy623]; with_reducible exact H2_) | (have H2_ := (Option.bind_some _ _).symm.trans H; with_reducible exact H2_) | with_reducible exact H | (rw [hy623]; exact H) | exact H
  have Ny623 := Aside0.mk hy623
  clear hy623
  have HC8 := Aside0.mk H
  clear H
  go_enter Tryz.func8, Tryz.ntmps8
  go_upto_if 29 with (first | ((with_reducible refine gate_callee (f := 9) rfl ?_); refine goesL_ (some 16) rfl rfl Tryz.func9 (by kernel_rfl) rfl #[] rfl (by (try simp only [List.map_toArray, List.map_cons, List.map_nil]); first | done | rfl | (simp only [List.length_drop, List.length_take]; rfl)) ?_; (with_reducible refine (lockagelaw16_awake.calls k  true _ A4.out).mono ?_); rintro e w9 ⟨rfl, hb⟩; refine ⟨_, rfl, ?_⟩; have n0_ := Aside0.mk (below_step (by repeat (first | (with_reducible first | exact HB.out | apply below_alloc | apply pw_below_drewN | apply below_drew1) | exact HB.out)) hb); clear HB; have HB := n0_; clear n0_; (try clear hb); (try clear hb2); (try clear hk); (try clear hi)) | ((with_reducible refine gate_callee (f := 12) rfl ?_); refine goesL_ (some 20) rfl rfl Tryz.func12 (by kernel_rfl) rfl #[.slice A0 l0.length c0] rfl (by (try simp only [List.map_toArray, List.map_cons, List.map_nil]); first | done | rfl | (simp only [List.length_drop, List.length_take]; rfl)) ?_; (with_reducible refine (lockagelaw16_Request.calls k _ _ l0 t600 t601 t602 t603 t604 t605 t608 _ ?side1 ?side2 A6.out).mono ?_); (case side1 => repeat (first | exact (Kd.C_below HR0.out HB.out) | (with_reducible refine Kd.C_alloc ?_ _) | (with_reducible refine Kd.C_drewN ?_ _) | (with_reducible refine Kd.C_drew ?_))); (case side2 => exact HC0.out); rintro e w10 ⟨v606, rfl, ho0, hb⟩; refine ⟨_, rfl, ?_⟩; have n0_ := Aside0.mk (Kd.R_lower ho0 (below_size (by repeat (first | (with_reducible first | exact HB.out | apply below_alloc | apply pw_below_drewN | apply below_drew1) | exact HB.out)))); have n1_ := Aside0.mk (below_step (by repeat (first | (with_reducible first | exact HB.out | apply below_alloc | apply pw_below_drewN | apply below_drew1) | exact HB.out)) hb); clear HB; have HO607 := n0_; have HB := n1_; clear n0_ n1_; (try clear hb); (try clear hb2); (try clear hk); (try clear hi); (try clear ho0)) | ((with_reducible refine gate_callee (f := 12) rfl ?_); refine goesL_ (some 22) rfl rfl Tryz.func12 (by kernel_rfl) rfl #[.slice A1 l1.length c1] rfl (by (try simp only [List.map_toArray, List.map_cons, List.map_nil]); first | done | rfl | (simp only [List.length_drop, List.length_take]; rfl)) ?_; (with_reducible refine (lockagelaw16_Request.calls k _ _ l1 t609 t610 t611 t612 t613 t614 t617 _ ?side1 ?side2 A7.out).mono ?_); (case side1 => repeat (first | exact (Kd.C_below HR1.out HB.out) | (with_reducible refine Kd.C_alloc ?_ _) | (with_reducible refine Kd.C_drewN ?_ _) | (with_reducible refine Kd.C_drew ?_))); (case side2 => exact HC1.out); rintro e w11 ⟨v615, rfl, ho0, hb⟩; refine ⟨_, rfl, ?_⟩; have n0_ := Aside0.mk (Kd.R_elder' (by (with_reducible repeat (first | apply Kd.R_alloc | apply Kd.R_drewN | apply Kd.R_drew)); exact HO607.out) (Kd.R_base ho0) hb); have n1_ := Aside0.mk (Kd.R_lower (Kd.R_new' ho0 (Kd.R_lt (by (with_reducible repeat (first | apply Kd.R_alloc | apply Kd.R_drewN | apply Kd.R_drew)); exact HO607.out))) (below_size (by repeat (first | (with_reducible first | exact HB.out | apply below_alloc | apply pw_below_drewN | apply below_drew1) | exact HB.out)))); have n2_ := Aside0.mk (below_step (by repeat (first | (with_reducible first | exact HB.out | apply below_alloc | apply pw_below_drewN | apply below_drew1) | exact HB.out)) hb); clear HO607; clear HB; have HO607 := n0_; have HO616 := n1_; have HB := n2_; clear n0_ n1_ n2_; (try clear hb); (try clear hb2); (try clear hk); (try clear hi); (try clear ho0)) | ((with_reducible refine gate_dst (N := 8) rfl ?_); refine box_event ?hg (N := 8) ?hd (cs := #[.string (⟨#[]⟩ : ByteArray), .string (⟨#[]⟩ : ByteArray), .int .i64 0, .string (⟨#[]⟩ : ByteArray), .int .i64 0, .slice none 0 0, .string (⟨#[]⟩ : ByteArray)]) (t := 26) ?hr ?_; (case hd => rfl); (case hg => rfl); (case hr => first | (go_simp; done) | (go_simp; rfl)); intro gb618 hg w12 hbox hb; have n0_ := Aside0.mk (Kd.R_below (by (with_reducible repeat (first | apply Kd.R_alloc | apply Kd.R_drewN | apply Kd.R_drew)); exact HO607.out) hb); have n1_ := Aside0.mk (Kd.R_below (by (with_reducible repeat (first | apply Kd.R_alloc | apply Kd.R_drewN | apply Kd.R_drew)); exact HO616.out) hb); have n2_ := Aside0.mk (below_step (by repeat (first | (with_reducible first | exact HB.out | apply below_alloc | apply pw_below_drewN | apply below_drew1) | exact HB.out)) hb); have n3_ := Aside0.mk (hbox); have n4_ := Aside0.mk ((by rw [hg]; exact (below_size (by repeat (first | (with_reducible first | exact HB.out | apply below_alloc | apply pw_below_drewN | apply below_drew1) | exact HB.out))) : w.heap.size ≤ gb618)); have n5_ := Aside0.mk ((by rw [hg]; exact (below_size (by repeat (first | (with_reducible first | exact HB.out | apply below_alloc | apply pw_below_drewN | apply below_drew1) | exact HB.out))) : w.heap.size ≤ gb618)); clear HO607; clear HO616; clear HB; have HO607 := n0_; have HO616 := n1_; have HB := n2_; have BK618 := n3_; have GW618 := n4_; have GE618 := n5_; clear n0_ n1_ n2_ n3_ n4_ n5_; clear hb hbox hg) | ((with_reducible refine gate_dst (N := 9) rfl ?_); refine box_event ?hg (N := 9) ?hd (cs := #[.string (⟨#[]⟩ : ByteArray), .string (⟨#[]⟩ : ByteArray), .int .i64 0, .string (⟨#[]⟩ : ByteArray), .int .i64 0, .slice none 0 0, .string (⟨#[]⟩ : ByteArray)]) (t := 26) ?hr ?_; (case hd => rfl); (case hg => rfl); (case hr => first | (go_simp; done) | (go_simp; rfl)); intro gb619 hg w13 hbox hb; have n0_ := Aside0.mk (Kd.R_below (by (with_reducible repeat (first | apply Kd.R_alloc | apply Kd.R_drewN | apply Kd.R_drew)); exact HO607.out) hb); have n1_ := Aside0.mk (Kd.R_below (by (with_reducible repeat (first | apply Kd.R_alloc | apply Kd.R_drewN | apply Kd.R_drew)); exact HO616.out) hb); have n2_ := Aside0.mk (blk_below (g := gb618) (o := .cells #[.string (⟨#[]⟩ : ByteArray), .string (⟨#[]⟩ : ByteArray), .int .i64 0, .string (⟨#[]⟩ : ByteArray), .int .i64 0, .slice none 0 0, .string (⟨#[]⟩ : ByteArray)] 26 (0, 0)) (by (with_reducible repeat (first | refine blk_drewN ?_ _ | refine blk_drew ?_ | refine blk_alloc ?_ _)); exact BK618.out) hb); have n3_ := Aside0.mk (below_step (by repeat (first | (with_reducible first | exact HB.out | apply below_alloc | apply pw_below_drewN | apply below_drew1 | refine below_set ?_ GE618.out) | exact HB.out)) hb); have n4_ := Aside0.mk (hbox); have n5_ := Aside0.mk ((by rw [hg]; exact (below_size (by repeat (first | (with_reducible first | exact HB.out | apply below_alloc | apply pw_below_drewN | apply below_drew1 | refine below_set ?_ GE618.out) | exact HB.out))) : w.heap.size ≤ gb619)); have n6_ := Aside0.mk ((by rw [hg]; exact (below_size (by repeat (first | (with_reducible first | exact HB.out | apply below_alloc | apply pw_below_drewN | apply below_drew1 | refine below_set ?_ GE618.out) | exact HB.out))) : w.heap.size ≤ gb619)); have n7_ := Aside0.mk ((by rw [hg]; exact Nat.ne_of_lt (blk_lt (g := gb618) (o := .cells #[.string (⟨#[]⟩ : ByteArray), .string (⟨#[]⟩ : ByteArray), .int .i64 0, .string (⟨#[]⟩ : ByteArray), .int .i64 0, .slice none 0 0, .string (⟨#[]⟩ : ByteArray)] 26 (0, 0)) (by (with_reducible repeat (first | refine blk_drewN ?_ _ | refine blk_drew ?_ | refine blk_alloc ?_ _)); exact BK618.out)) : gb618 ≠ gb619)); have n8_ := Aside0.mk ((by rw [hg]; exact Nat.ne_of_gt (blk_lt (g := gb618) (o := .cells #[.string (⟨#[]⟩ : ByteArray), .string (⟨#[]⟩ : ByteArray), .int .i64 0, .string (⟨#[]⟩ : ByteArray), .int .i64 0, .slice none 0 0, .string (⟨#[]⟩ : ByteArray)] 26 (0, 0)) (by (with_reducible repeat (first | refine blk_drewN ?_ _ | refine blk_drew ?_ | refine blk_alloc ?_ _)); exact BK618.out)) : gb619 ≠ gb618)); clear HO607; clear HO616; clear BK618; clear HB; have HO607 := n0_; have HO616 := n1_; have BK618 := n2_; have HB := n3_; have BK619 := n4_; have GW619 := n5_; have GE619 := n6_; have NB618_619 := n7_; have NB619_618 := n8_; clear n0_ n1_ n2_ n3_ n4_ n5_ n6_ n7_ n8_; clear hb hbox hg; have hnb14 := NB618_619.out; have hnc14 := NB619_618.out; have hcz15_0 : w13.cell? ⟨gb618, 0, none⟩ = some (.string (⟨#[]⟩ : ByteArray)) := (blk_cell BK618.out 0).trans rfl; have hcz15_1 : w13.cell? ⟨gb618, 1, none⟩ = some (.string (⟨#[]⟩ : ByteArray)) := (blk_cell BK618.out 1).trans rfl; have hcz15_2 : w13.cell? ⟨gb618, 2, none⟩ = some (.int .i64 0) := (blk_cell BK618.out 2).trans rfl; have hcz15_3 : w13.cell? ⟨gb618, 3, none⟩ = some (.string (⟨#[]⟩ : ByteArray)) := (blk_cell BK618.out 3).trans rfl; have hcz15_4 : w13.cell? ⟨gb618, 4, none⟩ = some (.int .i64 0) := (blk_cell BK618.out 4).trans rfl; have hcz15_5 : w13.cell? ⟨gb618, 5, none⟩ = some (.slice none 0 0) := (blk_cell BK618.out 5).trans rfl; have hcz15_6 : w13.cell? ⟨gb618, 6, none⟩ = some (.string (⟨#[]⟩ : ByteArray)) := (blk_cell BK618.out 6).trans rfl; have hfz15_0 := blk_frozen BK618.out 0; have hfz15_1 := blk_frozen BK618.out 1; have hfz15_2 := blk_frozen BK618.out 2; have hfz15_3 := blk_frozen BK618.out 3; have hfz15_4 := blk_frozen BK618.out 4; have hfz15_5 := blk_frozen BK618.out 5; have hfz15_6 := blk_frozen BK618.out 6; obtain ⟨Ao16, co16, eo16⟩ := Kd.R_slice HO607.out; subst eo16; have hcz17_0 : w13.cell? ⟨gb619, 0, none⟩ = some (.string (⟨#[]⟩ : ByteArray)) := (blk_cell BK619.out 0).trans rfl; have hcz17_1 : w13.cell? ⟨gb619, 1, none⟩ = some (.string (⟨#[]⟩ : ByteArray)) := (blk_cell BK619.out 1).trans rfl; have hcz17_2 : w13.cell? ⟨gb619, 2, none⟩ = some (.int .i64 0) := (blk_cell BK619.out 2).trans rfl; have hcz17_3 : w13.cell? ⟨gb619, 3, none⟩ = some (.string (⟨#[]⟩ : ByteArray)) := (blk_cell BK619.out 3).trans rfl; have hcz17_4 : w13.cell? ⟨gb619, 4, none⟩ = some (.int .i64 0) := (blk_cell BK619.out 4).trans rfl; have hcz17_5 : w13.cell? ⟨gb619, 5, none⟩ = some (.slice none 0 0) := (blk_cell BK619.out 5).trans rfl; have hcz17_6 : w13.cell? ⟨gb619, 6, none⟩ = some (.string (⟨#[]⟩ : ByteArray)) := (blk_cell BK619.out 6).trans rfl; have hfz17_0 := blk_frozen BK619.out 0; have hfz17_1 := blk_frozen BK619.out 1; have hfz17_2 := blk_frozen BK619.out 2; have hfz17_3 := blk_frozen BK619.out 3; have hfz17_4 := blk_frozen BK619.out 4; have hfz17_5 := blk_frozen BK619.out 5; have hfz17_6 := blk_frozen BK619.out 6; obtain ⟨Ao18, co18, eo18⟩ := Kd.R_slice HO616.out; subst eo18) | ((with_reducible refine gate_dst (N := 24) rfl ?_); refine Kd.R_lit k37 _ 37 ?hg (N := 24) ?hd (xs := ([(⟨(⟨#[72, 111, 115, 116]⟩ : ByteArray), (⟨#[104, 46, 88]⟩ : ByteArray)⟩ : S37)] : List (S37))) (inner := [.string (⟨#[72, 111, 115, 116]⟩ : ByteArray), .string (⟨#[104, 46, 88]⟩ : ByteArray)]) (ok := fun _ => True) (okp := fun _ => True) ?hr ?hp (fun _ hk => hk) trivial (Below.refl _ _) (Nat.le_refl _) (by simp) ?_; (case hd => rfl); (case hg => rfl); (case hr => first | (go_simp; done) | (go_simp; rfl)); (case hp => exact (Reps.c2 (show Kd.M k37 _ _ _ (⟨(⟨#[72, 111, 115, 116]⟩ : ByteArray), (⟨#[104, 46, 88]⟩ : ByteArray)⟩ : S37) [.string (⟨#[72, 111, 115, 116]⟩ : ByteArray), .string (⟨#[104, 46, 88]⟩ : ByteArray)] from (k37_mkM _ _ _ (⟨(⟨#[72, 111, 115, 116]⟩ : ByteArray), (⟨#[104, 46, 88]⟩ : ByteArray)⟩ : S37) )) (Reps.none _ _))); intro v621 w19 ho20 hb hg_ hnew_; clear hg_ hnew_; (first | rw [← Ny620.out] at ho20 | (simp only [Int.reduceToNat] at ho20; rw [← Ny620.out] at ho20)); have n0_ := Aside0.mk (Kd.R_elder' (by (with_reducible repeat (first | apply Kd.R_alloc | apply Kd.R_drewN | apply Kd.R_drew)); exact (Kd.R_mono (Kd.R_mono (Kd.R_far (p := ⟨gb619, 6, none⟩) (Kd.R_far (p := ⟨gb619, 5, none⟩) (Kd.R_far (p := ⟨gb619, 4, none⟩) (Kd.R_far (p := ⟨gb619, 3, none⟩) (Kd.R_far (p := ⟨gb619, 2, none⟩) (Kd.R_far (p := ⟨gb619, 1, none⟩) (Kd.R_far (p := ⟨gb619, 0, none⟩) (Kd.R_far (p := ⟨gb618, 6, none⟩) (Kd.R_far (p := ⟨gb618, 5, none⟩) (Kd.R_far (p := ⟨gb618, 4, none⟩) (Kd.R_far (p := ⟨gb618, 3, none⟩) (Kd.R_far (p := ⟨gb618, 2, none⟩) (Kd.R_far (p := ⟨gb618, 1, none⟩) (Kd.R_far (p := ⟨gb618, 0, none⟩) (Kd.R_types (Kd.R_types HO607.out BK618.out (by decide)) BK619.out (by decide)) (fun _ hk => hk.1.2) (.string t600)) (fun _ hk => hk.1.2) (.string t601)) (fun _ hk => hk.1.2) (.int .i64 t602)) (fun _ hk => hk.1.2) (.string t603)) (fun _ hk => hk.1.2) (.int .i64 t604)) (fun _ hk => hk.1.2) (.slice Ao16 t605.length co16)) (fun _ hk => hk.1.2) (.string t608)) (fun _ hk => hk.2) (.string t609)) (fun _ hk => hk.2) (.string t610)) (fun _ hk => hk.2) (.int .i64 t611)) (fun _ hk => hk.2) (.string t612)) (fun _ hk => hk.2) (.int .i64 t613)) (fun _ hk => hk.2) (.slice Ao18 t614.length co18)) (fun _ hk => hk.2) (.string t617)) (fun _ h_ => h_.1)) (fun _ h_ => h_.1))) (Kd.R_base ho20) hb); have n1_ := Aside0.mk (Kd.R_elder' (by (with_reducible repeat (first | apply Kd.R_alloc | apply Kd.R_drewN | apply Kd.R_drew)); exact (Kd.R_mono (Kd.R_mono (Kd.R_far (p := ⟨gb619, 6, none⟩) (Kd.R_far (p := ⟨gb619, 5, none⟩) (Kd.R_far (p := ⟨gb619, 4, none⟩) (Kd.R_far (p := ⟨gb619, 3, none⟩) (Kd.R_far (p := ⟨gb619, 2, none⟩) (Kd.R_far (p := ⟨gb619, 1, none⟩) (Kd.R_far (p := ⟨gb619, 0, none⟩) (Kd.R_far (p := ⟨gb618, 6, none⟩) (Kd.R_far (p := ⟨gb618, 5, none⟩) (Kd.R_far (p := ⟨gb618, 4, none⟩) (Kd.R_far (p := ⟨gb618, 3, none⟩) (Kd.R_far (p := ⟨gb618, 2, none⟩) (Kd.R_far (p := ⟨gb618, 1, none⟩) (Kd.R_far (p := ⟨gb618, 0, none⟩) (Kd.R_types (Kd.R_types HO616.out BK618.out (by decide)) BK619.out (by decide)) (fun _ hk => hk.1.2) (.string t600)) (fun _ hk => hk.1.2) (.string t601)) (fun _ hk => hk.1.2) (.int .i64 t602)) (fun _ hk => hk.1.2) (.string t603)) (fun _ hk => hk.1.2) (.int .i64 t604)) (fun _ hk => hk.1.2) (.slice Ao16 t605.length co16)) (fun _ hk => hk.1.2) (.string t608)) (fun _ hk => hk.2) (.string t609)) (fun _ hk => hk.2) (.string t610)) (fun _ hk => hk.2) (.int .i64 t611)) (fun _ hk => hk.2) (.string t612)) (fun _ hk => hk.2) (.int .i64 t613)) (fun _ hk => hk.2) (.slice Ao18 t614.length co18)) (fun _ hk => hk.2) (.string t617)) (fun _ h_ => h_.1)) (fun _ h_ => h_.1))) (Kd.R_base ho20) hb); have n2_ := Aside0.mk (Kd.R_lower (Kd.R_new' (Kd.R_new' ho20 (Kd.R_lt (by (with_reducible repeat (first | apply Kd.R_alloc | apply Kd.R_drewN | apply Kd.R_drew)); exact (Kd.R_mono (Kd.R_mono (Kd.R_far (p := ⟨gb619, 6, none⟩) (Kd.R_far (p := ⟨gb619, 5, none⟩) (Kd.R_far (p := ⟨gb619, 4, none⟩) (Kd.R_far (p := ⟨gb619, 3, none⟩) (Kd.R_far (p := ⟨gb619, 2, none⟩) (Kd.R_far (p := ⟨gb619, 1, none⟩) (Kd.R_far (p := ⟨gb619, 0, none⟩) (Kd.R_far (p := ⟨gb618, 6, none⟩) (Kd.R_far (p := ⟨gb618, 5, none⟩) (Kd.R_far (p := ⟨gb618, 4, none⟩) (Kd.R_far (p := ⟨gb618, 3, none⟩) (Kd.R_far (p := ⟨gb618, 2, none⟩) (Kd.R_far (p := ⟨gb618, 1, none⟩) (Kd.R_far (p := ⟨gb618, 0, none⟩) (Kd.R_types (Kd.R_types HO607.out BK618.out (by decide)) BK619.out (by decide)) (fun _ hk => hk.1.2) (.string t600)) (fun _ hk => hk.1.2) (.string t601)) (fun _ hk => hk.1.2) (.int .i64 t602)) (fun _ hk => hk.1.2) (.string t603)) (fun _ hk => hk.1.2) (.int .i64 t604)) (fun _ hk => hk.1.2) (.slice Ao16 t605.length co16)) (fun _ hk => hk.1.2) (.string t608)) (fun _ hk => hk.2) (.string t609)) (fun _ hk => hk.2) (.string t610)) (fun _ hk => hk.2) (.int .i64 t611)) (fun _ hk => hk.2) (.string t612)) (fun _ hk => hk.2) (.int .i64 t613)) (fun _ hk => hk.2) (.slice Ao18 t614.length co18)) (fun _ hk => hk.2) (.string t617)) (fun _ h_ => h_.1)) (fun _ h_ => h_.1))))) (Kd.R_lt (by (with_reducible repeat (first | apply Kd.R_alloc | apply Kd.R_drewN | apply Kd.R_drew)); exact (Kd.R_mono (Kd.R_mono (Kd.R_far (p := ⟨gb619, 6, none⟩) (Kd.R_far (p := ⟨gb619, 5, none⟩) (Kd.R_far (p := ⟨gb619, 4, none⟩) (Kd.R_far (p := ⟨gb619, 3, none⟩) (Kd.R_far (p := ⟨gb619, 2, none⟩) (Kd.R_far (p := ⟨gb619, 1, none⟩) (Kd.R_far (p := ⟨gb619, 0, none⟩) (Kd.R_far (p := ⟨gb618, 6, none⟩) (Kd.R_far (p := ⟨gb618, 5, none⟩) (Kd.R_far (p := ⟨gb618, 4, none⟩) (Kd.R_far (p := ⟨gb618, 3, none⟩) (Kd.R_far (p := ⟨gb618, 2, none⟩) (Kd.R_far (p := ⟨gb618, 1, none⟩) (Kd.R_far (p := ⟨gb618, 0, none⟩) (Kd.R_types (Kd.R_types HO616.out BK618.out (by decide)) BK619.out (by decide)) (fun _ hk => hk.1.2) (.string t600)) (fun _ hk => hk.1.2) (.string t601)) (fun _ hk => hk.1.2) (.int .i64 t602)) (fun _ hk => hk.1.2) (.string t603)) (fun _ hk => hk.1.2) (.int .i64 t604)) (fun _ hk => hk.1.2) (.slice Ao16 t605.length co16)) (fun _ hk => hk.1.2) (.string t608)) (fun _ hk => hk.2) (.string t609)) (fun _ hk => hk.2) (.string t610)) (fun _ hk => hk.2) (.int .i64 t611)) (fun _ hk => hk.2) (.string t612)) (fun _ hk => hk.2) (.int .i64 t613)) (fun _ hk => hk.2) (.slice Ao18 t614.length co18)) (fun _ hk => hk.2) (.string t617)) (fun _ h_ => h_.1)) (fun _ h_ => h_.1))))) (below_size (by repeat (first | (with_reducible first | exact HB.out | apply below_alloc | apply pw_below_drewN | apply below_drew1 | refine below_set ?_ GE618.out | refine below_set ?_ GE619.out) | exact HB.out)))); have n3_ := Aside0.mk (blk_below (g := gb618) (o := .cells #[.string t600, .string t601, .int .i64 t602, .string t603, .int .i64 t604, .slice Ao16 t605.length co16, .string t608] 26 (0, 0)) (by (with_reducible repeat (first | refine blk_drewN ?_ _ | refine blk_drew ?_ | refine blk_alloc ?_ _)); refine blk_far ?_ NB618_619.out _; (with_reducible repeat (first | refine blk_drewN ?_ _ | refine blk_drew ?_ | refine blk_alloc ?_ _)); refine blk_far ?_ NB618_619.out _; (with_reducible repeat (first | refine blk_drewN ?_ _ | refine blk_drew ?_ | refine blk_alloc ?_ _)); refine blk_far ?_ NB618_619.out _; (with_reducible repeat (first | refine blk_drewN ?_ _ | refine blk_drew ?_ | refine blk_alloc ?_ _)); refine blk_far ?_ NB618_619.out _; (with_reducible repeat (first | refine blk_drewN ?_ _ | refine blk_drew ?_ | refine blk_alloc ?_ _)); refine blk_far ?_ NB618_619.out _; (with_reducible repeat (first | refine blk_drewN ?_ _ | refine blk_drew ?_ | refine blk_alloc ?_ _)); refine blk_far ?_ NB618_619.out _; (with_reducible repeat (first | refine blk_drewN ?_ _ | refine blk_drew ?_ | refine blk_alloc ?_ _)); refine blk_far ?_ NB618_619.out _; (with_reducible repeat (first | refine blk_drewN ?_ _ | refine blk_drew ?_ | refine blk_alloc ?_ _)); refine blk_put (cs := #[.string t600, .string t601, .int .i64 t602, .string t603, .int .i64 t604, .slice Ao16 t605.length co16, .string (⟨#[]⟩ : ByteArray)]) ?_ 6 _ rfl; (with_reducible repeat (first | refine blk_drewN ?_ _ | refine blk_drew ?_ | refine blk_alloc ?_ _)); refine blk_put (cs := #[.string t600, .string t601, .int .i64 t602, .string t603, .int .i64 t604, .slice none 0 0, .string (⟨#[]⟩ : ByteArray)]) ?_ 5 _ rfl; (with_reducible repeat (first | refine blk_drewN ?_ _ | refine blk_drew ?_ | refine blk_alloc ?_ _)); refine blk_put (cs := #[.string t600, .string t601, .int .i64 t602, .string t603, .int .i64 0, .slice none 0 0, .string (⟨#[]⟩ : ByteArray)]) ?_ 4 _ rfl; (with_reducible repeat (first | refine blk_drewN ?_ _ | refine blk_drew ?_ | refine blk_alloc ?_ _)); refine blk_put (cs := #[.string t600, .string t601, .int .i64 t602, .string (⟨#[]⟩ : ByteArray), .int .i64 0, .slice none 0 0, .string (⟨#[]⟩ : ByteArray)]) ?_ 3 _ rfl; (with_reducible repeat (first | refine blk_drewN ?_ _ | refine blk_drew ?_ | refine blk_alloc ?_ _)); refine blk_put (cs := #[.string t600, .string t601, .int .i64 0, .string (⟨#[]⟩ : ByteArray), .int .i64 0, .slice none 0 0, .string (⟨#[]⟩ : ByteArray)]) ?_ 2 _ rfl; (with_reducible repeat (first | refine blk_drewN ?_ _ | refine blk_drew ?_ | refine blk_alloc ?_ _)); refine blk_put (cs := #[.string t600, .string (⟨#[]⟩ : ByteArray), .int .i64 0, .string (⟨#[]⟩ : ByteArray), .int .i64 0, .slice none 0 0, .string (⟨#[]⟩ : ByteArray)]) ?_ 1 _ rfl; (with_reducible repeat (first | refine blk_drewN ?_ _ | refine blk_drew ?_ | refine blk_alloc ?_ _)); refine blk_put (cs := #[.string (⟨#[]⟩ : ByteArray), .string (⟨#[]⟩ : ByteArray), .int .i64 0, .string (⟨#[]⟩ : ByteArray), .int .i64 0, .slice none 0 0, .string (⟨#[]⟩ : ByteArray)]) ?_ 0 _ rfl; (with_reducible repeat (first | refine blk_drewN ?_ _ | refine blk_drew ?_ | refine blk_alloc ?_ _)); exact BK618.out) hb); have n4_ := Aside0.mk (blk_below (g := gb619) (o := .cells #[.string t609, .string t610, .int .i64 t611, .string t612, .int .i64 t613, .slice Ao18 t614.length co18, .string t617] 26 (0, 0)) (by (with_reducible repeat (first | refine blk_drewN ?_ _ | refine blk_drew ?_ | refine blk_alloc ?_ _)); refine blk_put (cs := #[.string t609, .string t610, .int .i64 t611, .string t612, .int .i64 t613, .slice Ao18 t614.length co18, .string (⟨#[]⟩ : ByteArray)]) ?_ 6 _ rfl; (with_reducible repeat (first | refine blk_drewN ?_ _ | refine blk_drew ?_ | refine blk_alloc ?_ _)); refine blk_put (cs := #[.string t609, .string t610, .int .i64 t611, .string t612, .int .i64 t613, .slice none 0 0, .string (⟨#[]⟩ : ByteArray)]) ?_ 5 _ rfl; (with_reducible repeat (first | refine blk_drewN ?_ _ | refine blk_drew ?_ | refine blk_alloc ?_ _)); refine blk_put (cs := #[.string t609, .string t610, .int .i64 t611, .string t612, .int .i64 0, .slice none 0 0, .string (⟨#[]⟩ : ByteArray)]) ?_ 4 _ rfl; (with_reducible repeat (first | refine blk_drewN ?_ _ | refine blk_drew ?_ | refine blk_alloc ?_ _)); refine blk_put (cs := #[.string t609, .string t610, .int .i64 t611, .string (⟨#[]⟩ : ByteArray), .int .i64 0, .slice none 0 0, .string (⟨#[]⟩ : ByteArray)]) ?_ 3 _ rfl; (with_reducible repeat (first | refine blk_drewN ?_ _ | refine blk_drew ?_ | refine blk_alloc ?_ _)); refine blk_put (cs := #[.string t609, .string t610, .int .i64 0, .string (⟨#[]⟩ : ByteArray), .int .i64 0, .slice none 0 0, .string (⟨#[]⟩ : ByteArray)]) ?_ 2 _ rfl; (with_reducible repeat (first | refine blk_drewN ?_ _ | refine blk_drew ?_ | refine blk_alloc ?_ _)); refine blk_put (cs := #[.string t609, .string (⟨#[]⟩ : ByteArray), .int .i64 0, .string (⟨#[]⟩ : ByteArray), .int .i64 0, .slice none 0 0, .string (⟨#[]⟩ : ByteArray)]) ?_ 1 _ rfl; (with_reducible repeat (first | refine blk_drewN ?_ _ | refine blk_drew ?_ | refine blk_alloc ?_ _)); refine blk_put (cs := #[.string (⟨#[]⟩ : ByteArray), .string (⟨#[]⟩ : ByteArray), .int .i64 0, .string (⟨#[]⟩ : ByteArray), .int .i64 0, .slice none 0 0, .string (⟨#[]⟩ : ByteArray)]) ?_ 0 _ rfl; (with_reducible repeat (first | refine blk_drewN ?_ _ | refine blk_drew ?_ | refine blk_alloc ?_ _)); refine blk_far ?_ NB619_618.out _; (with_reducible repeat (first | refine blk_drewN ?_ _ | refine blk_drew ?_ | refine blk_alloc ?_ _)); refine blk_far ?_ NB619_618.out _; (with_reducible repeat (first | refine blk_drewN ?_ _ | refine blk_drew ?_ | refine blk_alloc ?_ _)); refine blk_far ?_ NB619_618.out _; (with_reducible repeat (first | refine blk_drewN ?_ _ | refine blk_drew ?_ | refine blk_alloc ?_ _)); refine blk_far ?_ NB619_618.out _; (with_reducible repeat (first | refine blk_drewN ?_ _ | refine blk_drew ?_ | refine blk_alloc ?_ _)); refine blk_far ?_ NB619_618.out _; (with_reducible repeat (first | refine blk_drewN ?_ _ | refine blk_drew ?_ | refine blk_alloc ?_ _)); refine blk_far ?_ NB619_618.out _; (with_reducible repeat (first | refine blk_drewN ?_ _ | refine blk_drew ?_ | refine blk_alloc ?_ _)); refine blk_far ?_ NB619_618.out _; (with_reducible repeat (first | refine blk_drewN ?_ _ | refine blk_drew ?_ | refine blk_alloc ?_ _)); exact BK619.out) hb); have n5_ := Aside0.mk (below_step (by repeat (first | (with_reducible first | exact HB.out | apply below_alloc | apply pw_below_drewN | apply below_drew1 | refine below_set ?_ GE618.out | refine below_set ?_ GE619.out) | exact HB.out)) hb); clear HO607; clear HO616; clear BK618; clear BK619; clear HB; have HO607 := n0_; have HO616 := n1_; have HO622 := n2_; have BK618 := n3_; have BK619 := n4_; have HB := n5_; clear n0_ n1_ n2_ n3_ n4_ n5_; clear hb ho20) | ((with_reducible refine gate_dst (N := 26) rfl ?_); refine Kd.R_lit k37 _ 37 ?hg (N := 26) ?hd (xs := ([(⟨(⟨#[72, 79, 83, 84]⟩ : ByteArray), (⟨#[72, 46, 120]⟩ : ByteArray)⟩ : S37)] : List (S37))) (inner := [.string (⟨#[72, 79, 83, 84]⟩ : ByteArray), .string (⟨#[72, 46, 120]⟩ : ByteArray)]) (ok := fun _ => True) (okp := fun _ => True) ?hr ?hp (fun _ hk => hk) trivial (Below.refl _ _) (Nat.le_refl _) (by simp) ?_; (case hd => rfl); (case hg => rfl); (case hr => first | (go_simp; done) | (go_simp; rfl)); (case hp => exact (Reps.c2 (show Kd.M k37 _ _ _ (⟨(⟨#[72, 79, 83, 84]⟩ : ByteArray), (⟨#[72, 46, 120]⟩ : ByteArray)⟩ : S37) [.string (⟨#[72, 79, 83, 84]⟩ : ByteArray), .string (⟨#[72, 46, 120]⟩ : ByteArray)] from (k37_mkM _ _ _ (⟨(⟨#[72, 79, 83, 84]⟩ : ByteArray), (⟨#[72, 46, 120]⟩ : ByteArray)⟩ : S37) )) (Reps.none _ _))); intro v624 w21 ho22 hb hg_ hnew_; clear hg_ hnew_; (first | rw [← Ny623.out] at ho22 | (simp only [Int.reduceToNat] at ho22; rw [← Ny623.out] at ho22)); have n0_ := Aside0.mk (Kd.R_elder' (by (with_reducible repeat (first | apply Kd.R_alloc | apply Kd.R_drewN | apply Kd.R_drew)); exact HO607.out) (Kd.R_base ho22) hb); have n1_ := Aside0.mk (Kd.R_elder' (by (with_reducible repeat (first | apply Kd.R_alloc | apply Kd.R_drewN | apply Kd.R_drew)); exact HO616.out) (Kd.R_base ho22) hb); have n2_ := Aside0.mk (Kd.R_elder' (by (with_reducible repeat (first | apply Kd.R_alloc | apply Kd.R_drewN | apply Kd.R_drew)); exact HO622.out) (Kd.R_base ho22) hb); have n3_ := Aside0.mk (Kd.R_lower (Kd.R_new' (Kd.R_new' (Kd.R_new' ho22 (Kd.R_lt (by (with_reducible repeat (first | apply Kd.R_alloc | apply Kd.R_drewN | apply Kd.R_drew)); exact HO607.out))) (Kd.R_lt (by (with_reducible repeat (first | apply Kd.R_alloc | apply Kd.R_drewN | apply Kd.R_drew)); exact HO616.out))) (Kd.R_lt (by (with_reducible repeat (first | apply Kd.R_alloc | apply Kd.R_drewN | apply Kd.R_drew)); exact HO622.out))) (below_size (by repeat (first | (with_reducible first | exact HB.out | apply below_alloc | apply pw_below_drewN | apply below_drew1 | refine below_set ?_ GE618.out | refine below_set ?_ GE619.out) | exact HB.out)))); have n4_ := Aside0.mk (blk_below (g := gb618) (o := .cells #[.string t600, .string t601, .int .i64 t602, .string t603, .int .i64 t604, .slice Ao16 t605.length co16, .string t608] 26 (0, 0)) (by (with_reducible repeat (first | refine blk_drewN ?_ _ | refine blk_drew ?_ | refine blk_alloc ?_ _)); exact BK618.out) hb); have n5_ := Aside0.mk (blk_below (g := gb619) (o := .cells #[.string t609, .string t610, .int .i64 t611, .string t612, .int .i64 t613, .slice Ao18 t614.length co18, .string t617] 26 (0, 0)) (by (with_reducible repeat (first | refine blk_drewN ?_ _ | refine blk_drew ?_ | refine blk_alloc ?_ _)); exact BK619.out) hb); have n6_ := Aside0.mk (below_step (by repeat (first | (with_reducible first | exact HB.out | apply below_alloc | apply pw_below_drewN | apply below_drew1 | refine below_set ?_ GE618.out | refine below_set ?_ GE619.out) | exact HB.out)) hb); clear HO607; clear HO616; clear HO622; clear BK618; clear BK619; clear HB; have HO607 := n0_; have HO616 := n1_; have HO622 := n2_; have HO625 := n3_; have BK618 := n4_; have BK619 := n5_; have HB := n6_; clear n0_ n1_ n2_ n3_ n4_ n5_ n6_; clear hb ho22))
  (try simp only [Act.put, List.setIfInBounds_toArray, List.set_cons_zero, List.set_cons_succ])
  go_cut [] (fun wc => ∃ (kq : Nat) (x11_7 : List (S37)), Aside0 (lockagelaw16_KeySame.j0 kq a2 true y620 x11_7 t600 t601 t602 t603 t604 t605 t608 t609 t610 t611 t612 t613 t614 t617 = some r) ∧ Aside0 (kq ≤ k) ∧ Aside0 (Kd.R k37 37 wc w.heap.size (fun k_ => some k_ ≠ (v624 : Value).ownBlock ∧ some k_ ≠ ((.slice Ao16 t605.length co16) : Value).ownBlock ∧ some k_ ≠ ((.slice Ao18 t614.length co18) : Value).ownBlock) v621 y620) ∧ Aside0 (Kd.R k37 37 wc w.heap.size (fun k_ => some k_ ≠ (v621 : Value).ownBlock ∧ some k_ ≠ ((.slice Ao16 t605.length co16) : Value).ownBlock ∧ some k_ ≠ ((.slice Ao18 t614.length co18) : Value).ownBlock) v624 x11_7) ∧ Aside0 (Kd.R k37 37 wc w.heap.size (fun k_ => some k_ ≠ (v621 : Value).ownBlock ∧ some k_ ≠ (v624 : Value).ownBlock ∧ some k_ ≠ ((.slice Ao18 t614.length co18) : Value).ownBlock) (.slice Ao16 t605.length co16) t605) ∧ Aside0 (Kd.R k37 37 wc w.heap.size (fun k_ => some k_ ≠ (v621 : Value).ownBlock ∧ some k_ ≠ (v624 : Value).ownBlock ∧ some k_ ≠ ((.slice Ao16 t605.length co16) : Value).ownBlock) (.slice Ao18 t614.length co18) t614) ∧ Aside0 (wc.heap[gb618]? = some (.cells #[.string t600, .string t601, .int .i64 t602, .string t603, .int .i64 t604, (.slice Ao16 t605.length co16), .string t608] 26 (0, 0))) ∧ Aside0 (wc.heap[gb619]? = some (.cells #[.string t609, .string t610, .int .i64 t611, .string t612, .int .i64 t613, (.slice Ao18 t614.length co18), .string t617] 26 (0, 0))) ∧ Aside0 (Below w.heap.size w wc))
  case first =>
   have H := HC8.out
   clear HC8
   by_cases c23 : (Int.tmod a2 3) = 0
   ·rw [if_pos c23] at H
    have c23b0 : ((Int.tmod a2 3) == 0) = true := beq_iff_eq.mpr c23
    have c23b1 : ((Int.tmod a2 3) != 0) = false := bne_eq_false_iff_eq.mpr c23
    clear c23
    (first | rw [c23b0] | (simp only [i64_w, i32_w]; rw [c23b0]) | skip)
    by_cases c24 : 0 < (y623.length : Int)
    ·rw [if_pos c24] at H
     have c24b0 : decide (0 < (y623.length : Int)) = true := decide_eq_true c24
     have c24b1 : decide (0 < y623.length) = true := decide_eq_true (by omega)
     clear c24
     obtain ⟨y626, hy626⟩ : ∃ y_ : List (S37), y_ = (y623.set (0 : Int).toNat (⟨(rd_T37 y623 0).f0, (⟨#[111, 116, 104, 101, 114]⟩ : ByteArray)⟩ : S37)) := ⟨_, rfl⟩
     replace H : (lockagelaw16_KeySame.j0 k a2 true y620 y626 t600 t601 t602 t603 t604 t605 t608 t609 t610 t611 t612 t613 t614 t617) = some r := by first | (rw [hy626]; with_reducible exact H) | (have H2_ := (Option.bind_some _ _).symm.trans H; rw [hy626]; with_reducible exact H2_) | (have H2_ := (Option.bind_some _ _).symm.trans H; with_reducible exact H2_) | with_reducible exact H | (rw [hy626]; exact H) | exact H
     have Ny626 := Aside0.mk hy626
     clear hy626
     have H' := Aside0.mk H
     clear H
     have p25 : 0 ≤ (0 : Int) := (by omega)
     have q25 : (0 : Int) < ((y623.length : Int) : Int) := of_decide_eq_true (by first | (with_reducible assumption) | assumption)
     have qi25 : (0 < y623.length) = True := eq_true (by omega)
     obtain ⟨go25, co25, eo25, gb25, gl25, cl25, HG25⟩ := Kd.R_form HO625.out (by omega)
     (first | cases eo25 | (injection eo25 with ea_ en_ ec_; (first | subst ea_ | (injection ea_ with ea_; subst ea_)); subst ec_; clear en_))
     have GB25 := Aside0.mk gb25
     have GG25 := Aside0.mk HG25
     clear gb25 gl25 HG25
     obtain ⟨ce25, hcl25, hM25, hcc25, hfr25⟩ := Kd.R_elem HO625.out z37 (0 : Int) p25 q25
     obtain rfl := k37_openM hM25
     have hx25_0 : w21.cell? ⟨go25, (0 : Int).toNat * 2, none⟩ = some (.string ((rd_T37 y623 0).f0)) := hcc25 0 _ rfl
     have hx25_1 : w21.cell? ⟨go25, (0 : Int).toNat * 2 + 1, none⟩ = some (.string ((rd_T37 y623 0).f1)) := hcc25 1 _ rfl
     have hf25_0 : w21.frozen? ⟨go25, (0 : Int).toNat * 2, none⟩ = false := hfr25 0
     have hf25_1 : w21.frozen? ⟨go25, (0 : Int).toNat * 2 + 1, none⟩ = false := hfr25 1
     clear hcl25 hcc25 hfr25 hM25
     (try rw [show ((0 : Int)).toNat = 0 from rfl] at hx25_0)
     (try simp only [Nat.reduceMul, Nat.zero_mul, Nat.zero_add, Nat.reduceAdd] at hx25_0)
     (try rw [show ((0 : Int)).toNat = 0 from rfl] at hf25_0)
     (try simp only [Nat.reduceMul, Nat.zero_mul, Nat.zero_add, Nat.reduceAdd] at hf25_0)
     (try rw [show ((0 : Int)).toNat = 0 from rfl] at hx25_1)
     (try simp only [Nat.reduceMul, Nat.zero_mul, Nat.zero_add, Nat.reduceAdd] at hx25_1)
     (try rw [show ((0 : Int)).toNat = 0 from rfl] at hf25_1)
     (try simp only [Nat.reduceMul, Nat.zero_mul, Nat.zero_add, Nat.reduceAdd] at hf25_1)
     replace p25 := eq_true p25
     replace q25 := eq_true q25
     have n_ := Aside0.mk (Kd.R_mono (ok' := (fun k_ => some k_ ≠ (.slice Ao16 t605.length co16 : Value).ownBlock ∧ some k_ ≠ (.slice Ao18 t614.length co18 : Value).ownBlock ∧ some k_ ≠ (v621 : Value).ownBlock)) HO625.out (fun k_ hk => ⟨hk.1.1.2, ⟨hk.1.2, hk.2⟩⟩))
     clear HO625
     have HO625 := n_
     clear n_
     have HX26 := Aside0.mk (show Kd.R k37 37 w21 w.heap.size (fun k_ => some k_ ≠ (.slice Ao16 t605.length co16 : Value).ownBlock ∧ some k_ ≠ (.slice Ao18 t614.length co18 : Value).ownBlock ∧ some k_ ≠ (v621 : Value).ownBlock) (.slice (some ⟨go25, 0, none⟩) y623.length co25) y623 from (by (with_reducible repeat (first | apply Kd.R_alloc | apply Kd.R_drewN | apply Kd.R_drew)); exact HO625.out))
     obtain ⟨ce26, hcl26, hM26, hcc26, hfr26⟩ := Kd.R_elem HX26.out z37 (0 : Int) (by omega) (by have h_ : (0 : Int) < ((y623.length : Int) : Int) := of_decide_eq_true (by first | (with_reducible assumption) | assumption); first | exact h_ | (have e_ := (Kd.R_reads' HO625.out).1; omega) | simpa using h_)
     obtain rfl := k37_openM hM26
     have HP26 := Kd.R_seg HX26.out (0 : Int) (by omega) (by have h_ : (0 : Int) < ((y623.length : Int) : Int) := of_decide_eq_true (by first | (with_reducible assumption) | assumption); first | exact h_ | (have e_ := (Kd.R_reads' HO625.out).1; omega) | simpa using h_) (seg := [.string (⟨#[111, 116, 104, 101, 114]⟩ : ByteArray)]) (j := 1) hcl26 hcc26 (show 2 ≤ 2 from by decide) (x' := (⟨(rd_T37 y623 0).f0, (⟨#[111, 116, 104, 101, 114]⟩ : ByteArray)⟩ : S37)) (k37_mkM _ _ _ (⟨(rd_T37 y623 0).f0, (⟨#[111, 116, 104, 101, 114]⟩ : ByteArray)⟩ : S37) ) (fun _ hk => hk)
     have hx26_1 := hcc26 1 _ rfl
     (try simp only [show (k37).sz = 2 from rfl, Nat.mul_one, Nat.add_zero] at hx26_1)
     (try rw [show ((0 : Int)).toNat = 0 from rfl] at hx26_1)
     (try simp only [Nat.reduceMul, Nat.zero_mul, Nat.zero_add, Nat.reduceAdd] at hx26_1)
     have hf26_1 := hfr26 1
     (try simp only [show (k37).sz = 2 from rfl, Nat.mul_one, Nat.add_zero] at hf26_1)
     (try rw [show ((0 : Int)).toNat = 0 from rfl] at hf26_1)
     (try simp only [Nat.reduceMul, Nat.zero_mul, Nat.zero_add, Nat.reduceAdd] at hf26_1)
     clear hcl26 hcc26 hfr26 hM26
     go_wp2_with (first | ((with_reducible refine gate_store (t := 9) (p := 32) rfl ?_); refine store_event (t := 9) (p := 32) (v := ?vo_w27) (w1 := (w21.setCell ⟨go25, 1, none⟩ (.string (⟨#[111, 116, 104, 101, 114]⟩ : ByteArray)))) ?hg ?ho ?hn ?hr ?_; (case ho => rfl); (case hg => rfl); (case hn => rfl); (case hr => first | (go_simp; done) | (go_simp; rfl)); intro w27 hw; have hg : w21.grownBy w27 (some go25) := (by rw [hw]; exact HP26.2); have hp_ : Kd.R k37 37 w27 w.heap.size (fun k_ => some k_ ≠ (.slice Ao16 t605.length co16 : Value).ownBlock ∧ some k_ ≠ (.slice Ao18 t614.length co18 : Value).ownBlock ∧ some k_ ≠ (v621 : Value).ownBlock) (.slice (some ⟨go25, 0, none⟩) y623.length co25) y626 := (by rw [hw, Ny626.out]; exact HP26.1); clear HP26; have n0_ := Aside0.mk (Kd.R_after (v := (.slice (some ⟨go25, 0, none⟩) y623.length co25)) (v1 := (.slice (some ⟨go25, 0, none⟩) y623.length co25)) (ok := (fun k_ => some k_ ≠ (.slice Ao18 t614.length co18 : Value).ownBlock ∧ some k_ ≠ (v621 : Value).ownBlock)) (by (with_reducible repeat (first | apply Kd.R_alloc | apply Kd.R_drewN | apply Kd.R_drew)); exact Kd.R_mono HO607.out (fun _ hk => ⟨⟨hk.1.1.2, hk.1.2⟩, hk.2⟩)) hg (.inl rfl)); have n1_ := Aside0.mk (Kd.R_after (v := (.slice (some ⟨go25, 0, none⟩) y623.length co25)) (v1 := (.slice (some ⟨go25, 0, none⟩) y623.length co25)) (ok := (fun k_ => some k_ ≠ (.slice Ao16 t605.length co16 : Value).ownBlock ∧ some k_ ≠ (v621 : Value).ownBlock)) (by (with_reducible repeat (first | apply Kd.R_alloc | apply Kd.R_drewN | apply Kd.R_drew)); exact Kd.R_mono HO616.out (fun _ hk => ⟨⟨hk.1.1.2, hk.1.2⟩, hk.2⟩)) hg (.inl rfl)); have n2_ := Aside0.mk (blk_grown (g := gb618) (o := .cells #[.string t600, .string t601, .int .i64 t602, .string t603, .int .i64 t604, .slice Ao16 t605.length co16, .string t608] 26 (0, 0)) (by (with_reducible repeat (first | refine blk_drewN ?_ _ | refine blk_drew ?_ | refine blk_alloc ?_ _)); exact BK618.out) hg (Kd.R_ne HO625.out BK618.out (by decide))); have n3_ := Aside0.mk (blk_grown (g := gb619) (o := .cells #[.string t609, .string t610, .int .i64 t611, .string t612, .int .i64 t613, .slice Ao18 t614.length co18, .string t617] 26 (0, 0)) (by (with_reducible repeat (first | refine blk_drewN ?_ _ | refine blk_drew ?_ | refine blk_alloc ?_ _)); exact BK619.out) hg (Kd.R_ne HO625.out BK619.out (by decide))); have n4_ := Aside0.mk (Kd.R_after (v := (.slice (some ⟨go25, 0, none⟩) y623.length co25)) (v1 := (.slice (some ⟨go25, 0, none⟩) y623.length co25)) (ok := (fun k_ => some k_ ≠ (.slice Ao16 t605.length co16 : Value).ownBlock ∧ some k_ ≠ (.slice Ao18 t614.length co18 : Value).ownBlock)) (by (with_reducible repeat (first | apply Kd.R_alloc | apply Kd.R_drewN | apply Kd.R_drew)); exact Kd.R_mono HO622.out (fun _ hk => ⟨⟨hk.1.1.2, hk.1.2⟩, hk.2⟩)) hg (.inl rfl)); have n5_ := Aside0.mk (hp_); have n6_ := Aside0.mk ((by rw [hw]; exact below_set (HB.out) GB25.out : Below w.heap.size w w27)); clear HO607; clear HO616; clear BK618; clear BK619; clear HO622; clear HO625; clear HB; have HO607 := n0_; have HO616 := n1_; have BK618 := n2_; have BK619 := n3_; have HO622 := n4_; have HO625 := n5_; have HB := n6_; clear n0_ n1_ n2_ n3_ n4_ n5_ n6_; clear hg hw hp_))
     go_meet
     case rel => exact ⟨_, (y626), H', ⟨by first | omega | exact Nat.le_refl _⟩, ⟨by (with_reducible repeat (first | apply Kd.R_alloc | apply Kd.R_drewN | apply Kd.R_drew)); exact Kd.R_mono HO622.out (fun _ hk => ⟨hk.2, ⟨hk.1.1, hk.1.2⟩⟩)⟩, ⟨by (with_reducible repeat (first | apply Kd.R_alloc | apply Kd.R_drewN | apply Kd.R_drew)); exact Kd.R_mono HO625.out (fun _ hk => ⟨hk.2.2, ⟨hk.1, hk.2.1⟩⟩)⟩, ⟨by (with_reducible repeat (first | apply Kd.R_alloc | apply Kd.R_drewN | apply Kd.R_drew)); exact Kd.R_mono HO607.out (fun _ hk => ⟨hk.1.2, ⟨hk.2, hk.1.1⟩⟩)⟩, ⟨by (with_reducible repeat (first | apply Kd.R_alloc | apply Kd.R_drewN | apply Kd.R_drew)); exact Kd.R_mono HO616.out (fun _ hk => ⟨hk.1.2, ⟨hk.2, hk.1.1⟩⟩)⟩, ⟨by (with_reducible repeat (first | refine blk_drewN ?_ _ | refine blk_drew ?_ | refine blk_alloc ?_ _)); exact BK618.out⟩, ⟨by (with_reducible repeat (first | refine blk_drewN ?_ _ | refine blk_drew ?_ | refine blk_alloc ?_ _)); exact BK619.out⟩, ⟨by repeat (first | (with_reducible first | exact HB.out | apply below_alloc | apply pw_below_drewN | apply below_drew1 | refine below_set ?_ GE618.out | refine below_set ?_ GE619.out) | exact HB.out)⟩⟩
    ·rw [if_neg c24] at H
     exact absurd H (by simp)
   ·rw [if_neg c23] at H
    have c23b0 : ((Int.tmod a2 3) == 0) = false := beq_eq_false_iff_ne.mpr c23
    have c23b1 : ((Int.tmod a2 3) != 0) = true := bne_iff_ne.mpr c23
    (first | rw [c23b0] | (simp only [i64_w, i32_w]; rw [c23b0]) | skip)
    have H' := Aside0.mk H
    clear H
    go_wp2
    go_meet
    case rel => exact ⟨_, (y623), H', ⟨by first | omega | exact Nat.le_refl _⟩, ⟨by (with_reducible repeat (first | apply Kd.R_alloc | apply Kd.R_drewN | apply Kd.R_drew)); exact Kd.R_mono HO622.out (fun _ hk => ⟨hk.2, ⟨hk.1.1.2, hk.1.2⟩⟩)⟩, ⟨by (with_reducible repeat (first | apply Kd.R_alloc | apply Kd.R_drewN | apply Kd.R_drew)); exact Kd.R_mono HO625.out (fun _ hk => ⟨hk.2, ⟨hk.1.1.2, hk.1.2⟩⟩)⟩, ⟨by (with_reducible repeat (first | apply Kd.R_alloc | apply Kd.R_drewN | apply Kd.R_drew)); exact Kd.R_mono HO607.out (fun _ hk => ⟨hk.1.2, ⟨hk.2, hk.1.1.2⟩⟩)⟩, ⟨by (with_reducible repeat (first | apply Kd.R_alloc | apply Kd.R_drewN | apply Kd.R_drew)); exact Kd.R_mono HO616.out (fun _ hk => ⟨hk.1.2, ⟨hk.2, hk.1.1.2⟩⟩)⟩, ⟨by (with_reducible repeat (first | refine blk_drewN ?_ _ | refine blk_drew ?_ | refine blk_alloc ?_ _)); exact BK618.out⟩, ⟨by (with_reducible repeat (first | refine blk_drewN ?_ _ | refine blk_drew ?_ | refine blk_alloc ?_ _)); exact BK619.out⟩, ⟨by repeat (first | (with_reducible first | exact HB.out | apply below_alloc | apply pw_below_drewN | apply below_drew1 | refine below_set ?_ GE618.out | refine below_set ?_ GE619.out) | exact HB.out)⟩⟩
  case rest =>
   clear HC8
   try clear c1
   try clear c2
   try clear p2
   try clear q2
   try clear hx2
   try clear qi2
   try clear c5
   try clear c8
   try clear c9
   try clear c12
   try clear c14
   try clear c23
   try clear c23b0
   try clear c23b1
   try clear c24
   try clear c24b0
   try clear c24b1
   try clear c25
   try clear p25
   try clear q25
   try clear hx25
   try clear qi25
   try clear hf25
   try clear c26
   try clear hx26
   try clear hf26
   try clear hcz15_0
   try clear hcz15_1
   try clear hcz15_2
   try clear hcz15_3
   try clear hcz15_4
   try clear hcz15_5
   try clear hcz15_6
   try clear hcz17_0
   try clear hcz17_1
   try clear hcz17_2
   try clear hcz17_3
   try clear hcz17_4
   try clear hcz17_5
   try clear hcz17_6
   try clear hfz15_0
   try clear hfz15_1
   try clear hfz15_2
   try clear hfz15_3
   try clear hfz15_4
   try clear hfz15_5
   try clear hfz15_6
   try clear hfz17_0
   try clear hfz17_1
   try clear hfz17_2
   try clear hfz17_3
   try clear hfz17_4
   try clear hfz17_5
   try clear hfz17_6
   try clear hx25_0
   try clear hx25_1
   try clear hx26_1
   try clear p25
   try clear q25
   obtain ⟨kq, x11_7, HA, HJ7, HO_10, HO_11, HO_619005, HO_620005, BK618, BK619, HB⟩ := hcut
   cases kq with
   | zero => exact absurd HA.out (by simp [lockagelaw16_KeySame.j0])
   | succ kj7 =>
    have H := HA.out
    clear HA
    simp only [lockagelaw16_KeySame.j0] at H
    obtain ⟨y627, hy627⟩ : ∃ y_ : List ByteArray, y_ = (([(⟨#[104, 111, 115, 116]⟩ : ByteArray)] : List ByteArray)) := ⟨_, rfl⟩
    replace H : ((lockageref05_Drop.f kj7 t605 y627).bind fun t630 => (if y620.length + t630.length < 4398046511104 then ((lockageref05_Drop.f kj7 t614 (([(⟨#[104, 111, 115, 116]⟩ : ByteArray)] : List ByteArray))).bind fun t639 => (if t639.length + x11_7.length < 4398046511104 then ((key_Key.f kj7 (⟨#[71, 69, 84]⟩ : ByteArray) (⟨#[47, 97, 47, 46, 47, 98, 47, 37, 55, 101, 63, 113]⟩ : ByteArray) 0 (⟨#[]⟩ : ByteArray) 1 (y620 ++ t630) t608).bind fun bt645 => ((key_Key.f kj7 (⟨#[71, 69, 84]⟩ : ByteArray) (⟨#[47, 97, 47, 99, 47, 46, 46, 47, 98, 47, 126, 63, 113]⟩ : ByteArray) 0 (⟨#[]⟩ : ByteArray) 0 (t639 ++ x11_7) t617).bind fun bt647 => (if true = true then (if bt645.2 = 0 then (if bt647.2 = 0 then (some ((bt645.1.toList == bt647.1.toList) == (decide ((Int.tmod a2 3) > 0)))) else (none)) else (none)) else (none)))) else (none))) else (none))) = some r := by first | (rw [hy627]; with_reducible exact H) | (have H2_ := (Option.bind_some _ _).symm.trans H; rw [hy627]; with_reducible exact H2_) | (have H2_ := (Option.bind_some _ _).symm.trans H; with_reducible exact H2_) | with_reducible exact H | (rw [hy627]; exact H) | exact H
    have Ny627 := Aside0.mk hy627
    clear hy627
    replace H := Option.bind_eq_some_iff.mp H
    obtain ⟨t630, A280, H⟩ := H
    replace H : (if y620.length + t630.length < 4398046511104 then ((lockageref05_Drop.f kj7 t614 (([(⟨#[104, 111, 115, 116]⟩ : ByteArray)] : List ByteArray))).bind fun t639 => (if t639.length + x11_7.length < 4398046511104 then ((key_Key.f kj7 (⟨#[71, 69, 84]⟩ : ByteArray) (⟨#[47, 97, 47, 46, 47, 98, 47, 37, 55, 101, 63, 113]⟩ : ByteArray) 0 (⟨#[]⟩ : ByteArray) 1 (y620 ++ t630) t608).bind fun bt645 => ((key_Key.f kj7 (⟨#[71, 69, 84]⟩ : ByteArray) (⟨#[47, 97, 47, 99, 47, 46, 46, 47, 98, 47, 126, 63, 113]⟩ : ByteArray) 0 (⟨#[]⟩ : ByteArray) 0 (t639 ++ x11_7) t617).bind fun bt647 => (if true = true then (if bt645.2 = 0 then (if bt647.2 = 0 then (some ((bt645.1.toList == bt647.1.toList) == (decide ((Int.tmod a2 3) > 0)))) else (none)) else (none)) else (none)))) else (none))) else (none)) = some r := H
    have A28 := Aside0.mk A280
    clear A280
    by_cases c29 : y620.length + t630.length < 4398046511104
    ·rw [if_pos c29] at H
     have LMc29 := Aside0.mk c29
     clear c29
     obtain ⟨y633, hy633⟩ : ∃ y_ : List (S37), y_ = (y620 ++ t630) := ⟨_, rfl⟩
     replace H : ((lockageref05_Drop.f kj7 t614 (([(⟨#[104, 111, 115, 116]⟩ : ByteArray)] : List ByteArray))).bind fun t639 => (if t639.length + x11_7.length < 4398046511104 then ((key_Key.f kj7 (⟨#[71, 69, 84]⟩ : ByteArray) (⟨#[47, 97, 47, 46, 47, 98, 47, 37, 55, 101, 63, 113]⟩ : ByteArray) 0 (⟨#[]⟩ : ByteArray) 1 y633 t608).bind fun bt645 => ((key_Key.f kj7 (⟨#[71, 69, 84]⟩ : ByteArray) (⟨#[47, 97, 47, 99, 47, 46, 46, 47, 98, 47, 126, 63, 113]⟩ : ByteArray) 0 (⟨#[]⟩ : ByteArray) 0 (t639 ++ x11_7) t617).bind fun bt647 => (if true = true then (if bt645.2 = 0 then (if bt647.2 = 0 then (some ((bt645.1.toList == bt647.1.toList) == (decide ((Int.tmod a2 3) > 0)))) else (none)) else (none)) else (none)))) else (none))) = some r := by first | (rw [hy633]; with_reducible exact H) | (have H2_ := (Option.bind_some _ _).symm.trans H; rw [hy633]; with_reducible exact H2_) | (have H2_ := (Option.bind_some _ _).symm.trans H; with_reducible exact H2_) | with_reducible exact H | (rw [hy633]; exact H) | exact H
     have Ny633 := Aside0.mk hy633
     clear hy633
     obtain ⟨y636, hy636⟩ : ∃ y_ : List ByteArray, y_ = (([(⟨#[104, 111, 115, 116]⟩ : ByteArray)] : List ByteArray)) := ⟨_, rfl⟩
     replace H : ((lockageref05_Drop.f kj7 t614 y636).bind fun t639 => (if t639.length + x11_7.length < 4398046511104 then ((key_Key.f kj7 (⟨#[71, 69, 84]⟩ : ByteArray) (⟨#[47, 97, 47, 46, 47, 98, 47, 37, 55, 101, 63, 113]⟩ : ByteArray) 0 (⟨#[]⟩ : ByteArray) 1 y633 t608).bind fun bt645 => ((key_Key.f kj7 (⟨#[71, 69, 84]⟩ : ByteArray) (⟨#[47, 97, 47, 99, 47, 46, 46, 47, 98, 47, 126, 63, 113]⟩ : ByteArray) 0 (⟨#[]⟩ : ByteArray) 0 (t639 ++ x11_7) t617).bind fun bt647 => (if true = true then (if bt645.2 = 0 then (if bt647.2 = 0 then (some ((bt645.1.toList == bt647.1.toList) == (decide ((Int.tmod a2 3) > 0)))) else (none)) else (none)) else (none)))) else (none))) = some r := by first | (rw [hy636]; with_reducible exact H) | (have H2_ := (Option.bind_some _ _).symm.trans H; rw [hy636]; with_reducible exact H2_) | (have H2_ := (Option.bind_some _ _).symm.trans H; with_reducible exact H2_) | with_reducible exact H | (rw [hy636]; exact H) | exact H
     have Ny636 := Aside0.mk hy636
     clear hy636
     replace H := Option.bind_eq_some_iff.mp H
     obtain ⟨t639, A300, H⟩ := H
     replace H : (if t639.length + x11_7.length < 4398046511104 then ((key_Key.f kj7 (⟨#[71, 69, 84]⟩ : ByteArray) (⟨#[47, 97, 47, 46, 47, 98, 47, 37, 55, 101, 63, 113]⟩ : ByteArray) 0 (⟨#[]⟩ : ByteArray) 1 y633 t608).bind fun bt645 => ((key_Key.f kj7 (⟨#[71, 69, 84]⟩ : ByteArray) (⟨#[47, 97, 47, 99, 47, 46, 46, 47, 98, 47, 126, 63, 113]⟩ : ByteArray) 0 (⟨#[]⟩ : ByteArray) 0 (t639 ++ x11_7) t617).bind fun bt647 => (if true = true then (if bt645.2 = 0 then (if bt647.2 = 0 then (some ((bt645.1.toList == bt647.1.toList) == (decide ((Int.tmod a2 3) > 0)))) else (none)) else (none)) else (none)))) else (none)) = some r := H
     have A30 := Aside0.mk A300
     clear A300
     by_cases c31 : t639.length + x11_7.length < 4398046511104
     ·rw [if_pos c31] at H
      have LMc31 := Aside0.mk c31
      clear c31
      obtain ⟨y642, hy642⟩ : ∃ y_ : List (S37), y_ = (t639 ++ x11_7) := ⟨_, rfl⟩
      replace H : ((key_Key.f kj7 (⟨#[71, 69, 84]⟩ : ByteArray) (⟨#[47, 97, 47, 46, 47, 98, 47, 37, 55, 101, 63, 113]⟩ : ByteArray) 0 (⟨#[]⟩ : ByteArray) 1 y633 t608).bind fun bt645 => ((key_Key.f kj7 (⟨#[71, 69, 84]⟩ : ByteArray) (⟨#[47, 97, 47, 99, 47, 46, 46, 47, 98, 47, 126, 63, 113]⟩ : ByteArray) 0 (⟨#[]⟩ : ByteArray) 0 y642 t617).bind fun bt647 => (if true = true then (if bt645.2 = 0 then (if bt647.2 = 0 then (some ((bt645.1.toList == bt647.1.toList) == (decide ((Int.tmod a2 3) > 0)))) else (none)) else (none)) else (none)))) = some r := by first | (rw [hy642]; with_reducible exact H) | (have H2_ := (Option.bind_some _ _).symm.trans H; rw [hy642]; with_reducible exact H2_) | (have H2_ := (Option.bind_some _ _).symm.trans H; with_reducible exact H2_) | with_reducible exact H | (rw [hy642]; exact H) | exact H
      have Ny642 := Aside0.mk hy642
      clear hy642
      replace H := Option.bind_eq_some_iff.mp H
      obtain ⟨⟨t645, t646⟩, A320, H⟩ := H
      replace H : ((key_Key.f kj7 (⟨#[71, 69, 84]⟩ : ByteArray) (⟨#[47, 97, 47, 99, 47, 46, 46, 47, 98, 47, 126, 63, 113]⟩ : ByteArray) 0 (⟨#[]⟩ : ByteArray) 0 y642 t617).bind fun bt647 => (if true = true then (if t646 = 0 then (if bt647.2 = 0 then (some ((t645.toList == bt647.1.toList) == (decide ((Int.tmod a2 3) > 0)))) else (none)) else (none)) else (none))) = some r := H
      have A32 := Aside0.mk A320
      clear A320
      replace H := Option.bind_eq_some_iff.mp H
      obtain ⟨⟨t647, t648⟩, A330, H⟩ := H
      replace H : (if true = true then (if t646 = 0 then (if t648 = 0 then (some ((t645.toList == t647.toList) == (decide ((Int.tmod a2 3) > 0)))) else (none)) else (none)) else (none)) = some r := H
      have A33 := Aside0.mk A330
      clear A330
      replace H : (if t646 = 0 then (if t648 = 0 then (some ((t645.toList == t647.toList) == (decide ((Int.tmod a2 3) > 0)))) else (none)) else (none)) = some r := by rw [if_pos rfl] at H; exact H
      by_cases c34 : t646 = 0
      ·rw [if_pos c34] at H
       have c34b0 : (t646 == 0) = true := beq_iff_eq.mpr c34
       have c34b1 : (t646 != 0) = false := bne_eq_false_iff_eq.mpr c34
       clear c34
       by_cases c35 : t648 = 0
       ·rw [if_pos c35] at H
        have c35b0 : (t648 == 0) = true := beq_iff_eq.mpr c35
        have c35b1 : (t648 != 0) = false := bne_eq_false_iff_eq.mpr c35
        clear c35
        obtain rfl := Option.some.inj H
        have hnb36 := NB618_619.out
        have hnc36 := NB619_618.out
        have hcz37_0 : wc.cell? ⟨gb618, 0, none⟩ = some (.string t600) := (blk_cell BK618.out 0).trans rfl
        have hcz37_1 : wc.cell? ⟨gb618, 1, none⟩ = some (.string t601) := (blk_cell BK618.out 1).trans rfl
        have hcz37_2 : wc.cell? ⟨gb618, 2, none⟩ = some (.int .i64 t602) := (blk_cell BK618.out 2).trans rfl
        have hcz37_3 : wc.cell? ⟨gb618, 3, none⟩ = some (.string t603) := (blk_cell BK618.out 3).trans rfl
        have hcz37_4 : wc.cell? ⟨gb618, 4, none⟩ = some (.int .i64 t604) := (blk_cell BK618.out 4).trans rfl
        have hcz37_5 : wc.cell? ⟨gb618, 5, none⟩ = some (.slice Ao16 t605.length co16) := (blk_cell BK618.out 5).trans rfl
        have hcz37_6 : wc.cell? ⟨gb618, 6, none⟩ = some (.string t608) := (blk_cell BK618.out 6).trans rfl
        have hfz37_0 := blk_frozen BK618.out 0
        have hfz37_1 := blk_frozen BK618.out 1
        have hfz37_2 := blk_frozen BK618.out 2
        have hfz37_3 := blk_frozen BK618.out 3
        have hfz37_4 := blk_frozen BK618.out 4
        have hfz37_5 := blk_frozen BK618.out 5
        have hfz37_6 := blk_frozen BK618.out 6
        go_wp2_with (first | ((with_reducible refine gate_dst (N := 37) rfl ?_); refine Kd.R_lit Kd.string _ 9 ?hg (N := 37) ?hd (xs := ([(⟨#[104, 111, 115, 116]⟩ : ByteArray)] : List ByteArray)) (inner := [.string (⟨#[104, 111, 115, 116]⟩ : ByteArray)]) (ok := fun _ => True) (okp := fun _ => True) ?hr ?hp (fun _ hk => hk) trivial (Below.refl _ _) (Nat.le_refl _) (by simp) ?_; (case hd => rfl); (case hg => rfl); (case hr => first | (go_simp; done) | (go_simp; rfl)); (case hp => exact (Reps.one (show Kd.M Kd.string _ _ _ (⟨#[104, 111, 115, 116]⟩ : ByteArray) [.string (⟨#[104, 111, 115, 116]⟩ : ByteArray)] from rfl) (Reps.none _ _))); intro v628 w38 ho39 hb hg_ hnew_; clear hg_ hnew_; (first | rw [← Ny627.out] at ho39 | (simp only [Int.reduceToNat] at ho39; rw [← Ny627.out] at ho39)); have n0_ := Aside0.mk (Kd.R_below (by (with_reducible repeat (first | apply Kd.R_alloc | apply Kd.R_drewN | apply Kd.R_drew)); exact HO_10.out) hb); have n1_ := Aside0.mk (Kd.R_below (by (with_reducible repeat (first | apply Kd.R_alloc | apply Kd.R_drewN | apply Kd.R_drew)); exact HO_11.out) hb); have n2_ := Aside0.mk (Kd.R_below (by (with_reducible repeat (first | apply Kd.R_alloc | apply Kd.R_drewN | apply Kd.R_drew)); exact HO_619005.out) hb); have n3_ := Aside0.mk (Kd.R_below (by (with_reducible repeat (first | apply Kd.R_alloc | apply Kd.R_drewN | apply Kd.R_drew)); exact HO_620005.out) hb); have n4_ := Aside0.mk (Kd.R_lower ho39 (below_size (by repeat (first | (with_reducible first | exact HB.out | apply below_alloc | apply pw_below_drewN | apply below_drew1 | refine below_set ?_ GE618.out | refine below_set ?_ GE619.out) | exact HB.out)))); have n5_ := Aside0.mk (blk_below (g := gb618) (o := .cells #[.string t600, .string t601, .int .i64 t602, .string t603, .int .i64 t604, .slice Ao16 t605.length co16, .string t608] 26 (0, 0)) (by (with_reducible repeat (first | refine blk_drewN ?_ _ | refine blk_drew ?_ | refine blk_alloc ?_ _)); exact BK618.out) hb); have n6_ := Aside0.mk (blk_below (g := gb619) (o := .cells #[.string t609, .string t610, .int .i64 t611, .string t612, .int .i64 t613, .slice Ao18 t614.length co18, .string t617] 26 (0, 0)) (by (with_reducible repeat (first | refine blk_drewN ?_ _ | refine blk_drew ?_ | refine blk_alloc ?_ _)); exact BK619.out) hb); have n7_ := Aside0.mk (below_step (by repeat (first | (with_reducible first | exact HB.out | apply below_alloc | apply pw_below_drewN | apply below_drew1 | refine below_set ?_ GE618.out | refine below_set ?_ GE619.out) | exact HB.out)) hb); clear HO_10; clear HO_11; clear HO_619005; clear HO_620005; clear BK618; clear BK619; clear HB; have HO_10 := n0_; have HO_11 := n1_; have HO_619005 := n2_; have HO_620005 := n3_; have HO629 := n4_; have BK618 := n5_; have BK619 := n6_; have HB := n7_; clear n0_ n1_ n2_ n3_ n4_ n5_ n6_ n7_; clear hb ho39; obtain ⟨Ao40, co40, eo40⟩ := Kd.R_slice HO629.out; subst eo40) | ((with_reducible refine gate_callee (f := 23) rfl ?_); refine goesL_ (some 38) rfl rfl Tryz.func23 (by kernel_rfl) rfl #[.slice Ao16 t605.length co16, .slice Ao40 y627.length co40] rfl (by (try simp only [List.map_toArray, List.map_cons, List.map_nil]); first | done | rfl | (simp only [List.length_drop, List.length_take]; rfl)) ?_; (with_reducible refine (lockageref05_Drop.calls kj7 _ _ t605 _ _ y627 t630 _ ?side1 ?side2 ?side3 ?side4 A28.out).mono ?_); (case side1 => repeat (first | exact (Kd.R_reads' HO_619005.out).2.2 | (with_reducible refine Kd.C_alloc ?_ _) | (with_reducible refine Kd.C_drewN ?_ _) | (with_reducible refine Kd.C_drew ?_))); (case side2 => exact (Kd.R_reads' HO_619005.out).2.1); (case side3 => repeat (first | exact (Kd.R_reads' HO629.out).2.2 | (with_reducible refine Kd.C_alloc ?_ _) | (with_reducible refine Kd.C_drewN ?_ _) | (with_reducible refine Kd.C_drew ?_))); (case side4 => exact (Kd.R_reads' HO629.out).2.1); rintro e w41 ⟨v631, rfl, ho0, hb⟩; refine ⟨_, rfl, ?_⟩; have n0_ := Aside0.mk (Kd.R_elder' (by (with_reducible repeat (first | apply Kd.R_alloc | apply Kd.R_drewN | apply Kd.R_drew)); exact HO_10.out) (Kd.R_base ho0) hb); have n1_ := Aside0.mk (Kd.R_elder' (by (with_reducible repeat (first | apply Kd.R_alloc | apply Kd.R_drewN | apply Kd.R_drew)); exact HO_11.out) (Kd.R_base ho0) hb); have n2_ := Aside0.mk (Kd.R_elder' (by (with_reducible repeat (first | apply Kd.R_alloc | apply Kd.R_drewN | apply Kd.R_drew)); exact HO_619005.out) (Kd.R_base ho0) hb); have n3_ := Aside0.mk (Kd.R_elder' (by (with_reducible repeat (first | apply Kd.R_alloc | apply Kd.R_drewN | apply Kd.R_drew)); exact HO_620005.out) (Kd.R_base ho0) hb); have n4_ := Aside0.mk (Kd.R_below (by (with_reducible repeat (first | apply Kd.R_alloc | apply Kd.R_drewN | apply Kd.R_drew)); exact HO629.out) hb); have n5_ := Aside0.mk (Kd.R_lower (Kd.R_new' (Kd.R_new' (Kd.R_new' (Kd.R_new' ho0 (Kd.R_lt (by (with_reducible repeat (first | apply Kd.R_alloc | apply Kd.R_drewN | apply Kd.R_drew)); exact HO_10.out))) (Kd.R_lt (by (with_reducible repeat (first | apply Kd.R_alloc | apply Kd.R_drewN | apply Kd.R_drew)); exact HO_11.out))) (Kd.R_lt (by (with_reducible repeat (first | apply Kd.R_alloc | apply Kd.R_drewN | apply Kd.R_drew)); exact HO_619005.out))) (Kd.R_lt (by (with_reducible repeat (first | apply Kd.R_alloc | apply Kd.R_drewN | apply Kd.R_drew)); exact HO_620005.out))) (below_size (by repeat (first | (with_reducible first | exact HB.out | apply below_alloc | apply pw_below_drewN | apply below_drew1 | refine below_set ?_ GE618.out | refine below_set ?_ GE619.out) | exact HB.out)))); have n6_ := Aside0.mk (blk_below (g := gb618) (o := .cells #[.string t600, .string t601, .int .i64 t602, .string t603, .int .i64 t604, .slice Ao16 t605.length co16, .string t608] 26 (0, 0)) (by (with_reducible repeat (first | refine blk_drewN ?_ _ | refine blk_drew ?_ | refine blk_alloc ?_ _)); exact BK618.out) hb); have n7_ := Aside0.mk (blk_below (g := gb619) (o := .cells #[.string t609, .string t610, .int .i64 t611, .string t612, .int .i64 t613, .slice Ao18 t614.length co18, .string t617] 26 (0, 0)) (by (with_reducible repeat (first | refine blk_drewN ?_ _ | refine blk_drew ?_ | refine blk_alloc ?_ _)); exact BK619.out) hb); have n8_ := Aside0.mk (below_step (by repeat (first | (with_reducible first | exact HB.out | apply below_alloc | apply pw_below_drewN | apply below_drew1 | refine below_set ?_ GE618.out | refine below_set ?_ GE619.out) | exact HB.out)) hb); clear HO_10; clear HO_11; clear HO_619005; clear HO_620005; clear HO629; clear BK618; clear BK619; clear HB; have HO_10 := n0_; have HO_11 := n1_; have HO_619005 := n2_; have HO_620005 := n3_; have HO629 := n4_; have HO632 := n5_; have BK618 := n6_; have BK619 := n7_; have HB := n8_; clear n0_ n1_ n2_ n3_ n4_ n5_ n6_ n7_ n8_; (try clear hb); (try clear hb2); (try clear hk); (try clear hi); (try clear ho0); obtain ⟨Ao43, co43, eo43⟩ := Kd.R_slice HO632.out; subst eo43) | ((with_reducible refine gate_builtin (b := .append) (xs := #[.tmp 33, .tmp 38]) rfl ?_); at_builtin; refine Kd.R_append_rows k37 (w0 := w) w.heap.size rfl (.tmp 33) (.tmp 38) 22 37 (.agg #[(.string ⟨#[]⟩), (.string ⟨#[]⟩)]) 32 rfl Tryz.underlying22 info37 rfl (by decide) (by omega) v621 y620 t630 _ _ _ (fun k_ => some k_ ≠ (v624 : Value).ownBlock ∧ some k_ ≠ (.slice Ao16 t605.length co16 : Value).ownBlock ∧ some k_ ≠ (.slice Ao18 t614.length co18 : Value).ownBlock ∧ some k_ ≠ (.slice Ao43 t630.length co43 : Value).ownBlock) (fun _ => False) rfl rfl ?aO ?aR (fun _ _ h => h) (fun _ h => h.elim) ?aF ?aB ?aS ?aL ?_; (case aR => repeat (first | exact (Kd.R_reads' HO632.out).2.2 | (with_reducible refine Kd.C_alloc ?_ _) | (with_reducible refine Kd.C_drewN ?_ _) | (with_reducible refine Kd.C_drew ?_))); (case aB => exact (by repeat (first | (with_reducible first | exact HB.out | apply below_alloc | apply pw_below_drewN | apply below_drew1 | refine below_set ?_ GE618.out | refine below_set ?_ GE619.out) | exact HB.out))); (case aF => exact (fun k_ hk => ⟨Kd.fresh' (Kd.R_lt (by (with_reducible repeat (first | apply Kd.R_alloc | apply Kd.R_drewN | apply Kd.R_drew)); exact HO_11.out)) k_ hk, Kd.fresh' (Kd.R_lt (by (with_reducible repeat (first | apply Kd.R_alloc | apply Kd.R_drewN | apply Kd.R_drew)); exact HO_619005.out)) k_ hk, Kd.fresh' (Kd.R_lt (by (with_reducible repeat (first | apply Kd.R_alloc | apply Kd.R_drewN | apply Kd.R_drew)); exact HO_620005.out)) k_ hk, Kd.fresh' (Kd.R_lt (by (with_reducible repeat (first | apply Kd.R_alloc | apply Kd.R_drewN | apply Kd.R_drew)); exact HO632.out)) k_ hk⟩)); (case aO => exact (by (with_reducible repeat (first | apply Kd.R_alloc | apply Kd.R_drewN | apply Kd.R_drew)); exact Kd.R_mono HO_10.out (fun _ hk => ⟨hk.1.1, ⟨hk.1.2.1, ⟨hk.1.2.2, hk.2⟩⟩⟩))); (case aS => exact (below_size (by repeat (first | (with_reducible first | exact HB.out | apply below_alloc | apply pw_below_drewN | apply below_drew1 | refine below_set ?_ GE618.out | refine below_set ?_ GE619.out) | exact HB.out)))); (case aL => have := LMc29.out; omega); intro v634 w42 ho hb hg hat; rw [← Ny633.out] at ho; have n0_ := Aside0.mk (Kd.R_after (ok := (fun k_ => some k_ ≠ (.slice Ao16 t605.length co16 : Value).ownBlock ∧ some k_ ≠ (.slice Ao18 t614.length co18 : Value).ownBlock ∧ some k_ ≠ (.slice Ao43 t630.length co43 : Value).ownBlock)) (by (with_reducible repeat (first | apply Kd.R_alloc | apply Kd.R_drewN | apply Kd.R_drew)); exact Kd.R_mono HO_11.out (fun _ hk => ⟨⟨hk.1.2.1, ⟨hk.1.2.2, hk.2⟩⟩, hk.1.1⟩)) hg hat); have n1_ := Aside0.mk (Kd.R_after (ok := (fun k_ => some k_ ≠ (v624 : Value).ownBlock ∧ some k_ ≠ (.slice Ao18 t614.length co18 : Value).ownBlock ∧ some k_ ≠ (.slice Ao43 t630.length co43 : Value).ownBlock)) (by (with_reducible repeat (first | apply Kd.R_alloc | apply Kd.R_drewN | apply Kd.R_drew)); exact Kd.R_mono HO_619005.out (fun _ hk => ⟨⟨hk.1.2.1, ⟨hk.1.2.2, hk.2⟩⟩, hk.1.1⟩)) hg hat); have n2_ := Aside0.mk (Kd.R_after (ok := (fun k_ => some k_ ≠ (v624 : Value).ownBlock ∧ some k_ ≠ (.slice Ao16 t605.length co16 : Value).ownBlock ∧ some k_ ≠ (.slice Ao43 t630.length co43 : Value).ownBlock)) (by (with_reducible repeat (first | apply Kd.R_alloc | apply Kd.R_drewN | apply Kd.R_drew)); exact Kd.R_mono HO_620005.out (fun _ hk => ⟨⟨hk.1.2.1, ⟨hk.1.2.2, hk.2⟩⟩, hk.1.1⟩)) hg hat); have n3_ := Aside0.mk (blk_grown (g := gb618) (o := .cells #[.string t600, .string t601, .int .i64 t602, .string t603, .int .i64 t604, .slice Ao16 t605.length co16, .string t608] 26 (0, 0)) (by (with_reducible repeat (first | refine blk_drewN ?_ _ | refine blk_drew ?_ | refine blk_alloc ?_ _)); exact BK618.out) hg (Kd.R_ne HO_10.out BK618.out (by decide))); have n4_ := Aside0.mk (blk_grown (g := gb619) (o := .cells #[.string t609, .string t610, .int .i64 t611, .string t612, .int .i64 t613, .slice Ao18 t614.length co18, .string t617] 26 (0, 0)) (by (with_reducible repeat (first | refine blk_drewN ?_ _ | refine blk_drew ?_ | refine blk_alloc ?_ _)); exact BK619.out) hg (Kd.R_ne HO_10.out BK619.out (by decide))); have n5_ := Aside0.mk (Kd.R_over' (by (with_reducible repeat (first | apply Kd.R_alloc | apply Kd.R_drewN | apply Kd.R_drew)); exact HO629.out) (Kd.R_typed (by (with_reducible repeat (first | apply Kd.R_alloc | apply Kd.R_drewN | apply Kd.R_drew)); exact HO_10.out)) (by decide) hg); have n6_ := Aside0.mk (Kd.R_after (ok := (fun k_ => some k_ ≠ (v624 : Value).ownBlock ∧ some k_ ≠ (.slice Ao16 t605.length co16 : Value).ownBlock ∧ some k_ ≠ (.slice Ao18 t614.length co18 : Value).ownBlock)) (by (with_reducible repeat (first | apply Kd.R_alloc | apply Kd.R_drewN | apply Kd.R_drew)); exact Kd.R_mono HO632.out (fun _ hk => ⟨⟨hk.1.1.2, ⟨hk.1.2, hk.2⟩⟩, hk.1.1.1.2⟩)) hg hat); have n7_ := Aside0.mk (hb); have n8_ := Aside0.mk (ho); clear HO_11; clear HO_619005; clear HO_620005; clear BK618; clear BK619; clear HO629; clear HO632; clear HB; clear HO_10; have HO_11 := n0_; have HO_619005 := n1_; have HO_620005 := n2_; have BK618 := n3_; have BK619 := n4_; have HO629 := n5_; have HO632 := n6_; have HB := n7_; have HO635 := n8_; clear n0_ n1_ n2_ n3_ n4_ n5_ n6_ n7_ n8_; clear ho hb hg hat; obtain ⟨Ao44, co44, eo44⟩ := Kd.R_slice HO635.out; subst eo44; have hcz45_0 : w42.cell? ⟨gb618, 0, none⟩ = some (.string t600) := (blk_cell BK618.out 0).trans rfl; have hcz45_1 : w42.cell? ⟨gb618, 1, none⟩ = some (.string t601) := (blk_cell BK618.out 1).trans rfl; have hcz45_2 : w42.cell? ⟨gb618, 2, none⟩ = some (.int .i64 t602) := (blk_cell BK618.out 2).trans rfl; have hcz45_3 : w42.cell? ⟨gb618, 3, none⟩ = some (.string t603) := (blk_cell BK618.out 3).trans rfl; have hcz45_4 : w42.cell? ⟨gb618, 4, none⟩ = some (.int .i64 t604) := (blk_cell BK618.out 4).trans rfl; have hcz45_5 : w42.cell? ⟨gb618, 5, none⟩ = some (.slice Ao16 t605.length co16) := (blk_cell BK618.out 5).trans rfl; have hcz45_6 : w42.cell? ⟨gb618, 6, none⟩ = some (.string t608) := (blk_cell BK618.out 6).trans rfl; have hfz45_0 := blk_frozen BK618.out 0; have hfz45_1 := blk_frozen BK618.out 1; have hfz45_2 := blk_frozen BK618.out 2; have hfz45_3 := blk_frozen BK618.out 3; have hfz45_4 := blk_frozen BK618.out 4; have hfz45_5 := blk_frozen BK618.out 5; have hfz45_6 := blk_frozen BK618.out 6; have hcz46_0 : w42.cell? ⟨gb619, 0, none⟩ = some (.string t609) := (blk_cell BK619.out 0).trans rfl; have hcz46_1 : w42.cell? ⟨gb619, 1, none⟩ = some (.string t610) := (blk_cell BK619.out 1).trans rfl; have hcz46_2 : w42.cell? ⟨gb619, 2, none⟩ = some (.int .i64 t611) := (blk_cell BK619.out 2).trans rfl; have hcz46_3 : w42.cell? ⟨gb619, 3, none⟩ = some (.string t612) := (blk_cell BK619.out 3).trans rfl; have hcz46_4 : w42.cell? ⟨gb619, 4, none⟩ = some (.int .i64 t613) := (blk_cell BK619.out 4).trans rfl; have hcz46_5 : w42.cell? ⟨gb619, 5, none⟩ = some (.slice Ao18 t614.length co18) := (blk_cell BK619.out 5).trans rfl; have hcz46_6 : w42.cell? ⟨gb619, 6, none⟩ = some (.string t617) := (blk_cell BK619.out 6).trans rfl; have hfz46_0 := blk_frozen BK619.out 0; have hfz46_1 := blk_frozen BK619.out 1; have hfz46_2 := blk_frozen BK619.out 2; have hfz46_3 := blk_frozen BK619.out 3; have hfz46_4 := blk_frozen BK619.out 4; have hfz46_5 := blk_frozen BK619.out 5; have hfz46_6 := blk_frozen BK619.out 6) | ((with_reducible refine gate_dst (N := 45) rfl ?_); refine Kd.R_lit Kd.string _ 9 ?hg (N := 45) ?hd (xs := ([(⟨#[104, 111, 115, 116]⟩ : ByteArray)] : List ByteArray)) (inner := [.string (⟨#[104, 111, 115, 116]⟩ : ByteArray)]) (ok := fun _ => True) (okp := fun _ => True) ?hr ?hp (fun _ hk => hk) trivial (Below.refl _ _) (Nat.le_refl _) (by simp) ?_; (case hd => rfl); (case hg => rfl); (case hr => first | (go_simp; done) | (go_simp; rfl)); (case hp => exact (Reps.one (show Kd.M Kd.string _ _ _ (⟨#[104, 111, 115, 116]⟩ : ByteArray) [.string (⟨#[104, 111, 115, 116]⟩ : ByteArray)] from rfl) (Reps.none _ _))); intro v637 w47 ho48 hb hg_ hnew_; clear hg_ hnew_; (first | rw [← Ny636.out] at ho48 | (simp only [Int.reduceToNat] at ho48; rw [← Ny636.out] at ho48)); have n0_ := Aside0.mk (Kd.R_below (by (with_reducible repeat (first | apply Kd.R_alloc | apply Kd.R_drewN | apply Kd.R_drew)); exact (Kd.R_mono (Kd.R_far (p := ⟨gb618, 5, none⟩) (Kd.R_far (p := ⟨gb618, 4, none⟩) (Kd.R_far (p := ⟨gb618, 3, none⟩) (Kd.R_far (p := ⟨gb618, 2, none⟩) (Kd.R_far (p := ⟨gb618, 1, none⟩) (Kd.R_far (p := ⟨gb618, 0, none⟩) (Kd.R_types HO_11.out BK618.out (by decide)) (fun _ hk => hk.2) (.string (⟨#[71, 69, 84]⟩ : ByteArray))) (fun _ hk => hk.2) (.string (⟨#[47, 97, 47, 46, 47, 98, 47, 37, 55, 101, 63, 113]⟩ : ByteArray))) (fun _ hk => hk.2) (.int .i64 0)) (fun _ hk => hk.2) (.string (⟨#[]⟩ : ByteArray))) (fun _ hk => hk.2) (.int .i64 1)) (fun _ hk => hk.2) (.slice Ao44 y633.length co44)) (fun _ h_ => h_.1))) hb); have n1_ := Aside0.mk (Kd.R_below (by (with_reducible repeat (first | apply Kd.R_alloc | apply Kd.R_drewN | apply Kd.R_drew)); exact (Kd.R_mono (Kd.R_far (p := ⟨gb618, 5, none⟩) (Kd.R_far (p := ⟨gb618, 4, none⟩) (Kd.R_far (p := ⟨gb618, 3, none⟩) (Kd.R_far (p := ⟨gb618, 2, none⟩) (Kd.R_far (p := ⟨gb618, 1, none⟩) (Kd.R_far (p := ⟨gb618, 0, none⟩) (Kd.R_types HO_619005.out BK618.out (by decide)) (fun _ hk => hk.2) (.string (⟨#[71, 69, 84]⟩ : ByteArray))) (fun _ hk => hk.2) (.string (⟨#[47, 97, 47, 46, 47, 98, 47, 37, 55, 101, 63, 113]⟩ : ByteArray))) (fun _ hk => hk.2) (.int .i64 0)) (fun _ hk => hk.2) (.string (⟨#[]⟩ : ByteArray))) (fun _ hk => hk.2) (.int .i64 1)) (fun _ hk => hk.2) (.slice Ao44 y633.length co44)) (fun _ h_ => h_.1))) hb); have n2_ := Aside0.mk (Kd.R_below (by (with_reducible repeat (first | apply Kd.R_alloc | apply Kd.R_drewN | apply Kd.R_drew)); exact (Kd.R_mono (Kd.R_far (p := ⟨gb618, 5, none⟩) (Kd.R_far (p := ⟨gb618, 4, none⟩) (Kd.R_far (p := ⟨gb618, 3, none⟩) (Kd.R_far (p := ⟨gb618, 2, none⟩) (Kd.R_far (p := ⟨gb618, 1, none⟩) (Kd.R_far (p := ⟨gb618, 0, none⟩) (Kd.R_types HO_620005.out BK618.out (by decide)) (fun _ hk => hk.2) (.string (⟨#[71, 69, 84]⟩ : ByteArray))) (fun _ hk => hk.2) (.string (⟨#[47, 97, 47, 46, 47, 98, 47, 37, 55, 101, 63, 113]⟩ : ByteArray))) (fun _ hk => hk.2) (.int .i64 0)) (fun _ hk => hk.2) (.string (⟨#[]⟩ : ByteArray))) (fun _ hk => hk.2) (.int .i64 1)) (fun _ hk => hk.2) (.slice Ao44 y633.length co44)) (fun _ h_ => h_.1))) hb); have n3_ := Aside0.mk (Kd.R_elder' (by (with_reducible repeat (first | apply Kd.R_alloc | apply Kd.R_drewN | apply Kd.R_drew)); exact (Kd.R_mono (Kd.R_far (p := ⟨gb618, 5, none⟩) (Kd.R_far (p := ⟨gb618, 4, none⟩) (Kd.R_far (p := ⟨gb618, 3, none⟩) (Kd.R_far (p := ⟨gb618, 2, none⟩) (Kd.R_far (p := ⟨gb618, 1, none⟩) (Kd.R_far (p := ⟨gb618, 0, none⟩) (Kd.R_types HO629.out BK618.out (by decide)) (fun _ hk => hk.2) (.string (⟨#[71, 69, 84]⟩ : ByteArray))) (fun _ hk => hk.2) (.string (⟨#[47, 97, 47, 46, 47, 98, 47, 37, 55, 101, 63, 113]⟩ : ByteArray))) (fun _ hk => hk.2) (.int .i64 0)) (fun _ hk => hk.2) (.string (⟨#[]⟩ : ByteArray))) (fun _ hk => hk.2) (.int .i64 1)) (fun _ hk => hk.2) (.slice Ao44 y633.length co44)) (fun _ h_ => h_.1))) (Kd.R_base ho48) hb); have n4_ := Aside0.mk (Kd.R_below (by (with_reducible repeat (first | apply Kd.R_alloc | apply Kd.R_drewN | apply Kd.R_drew)); exact (Kd.R_mono (Kd.R_far (p := ⟨gb618, 5, none⟩) (Kd.R_far (p := ⟨gb618, 4, none⟩) (Kd.R_far (p := ⟨gb618, 3, none⟩) (Kd.R_far (p := ⟨gb618, 2, none⟩) (Kd.R_far (p := ⟨gb618, 1, none⟩) (Kd.R_far (p := ⟨gb618, 0, none⟩) (Kd.R_types HO632.out BK618.out (by decide)) (fun _ hk => hk.2) (.string (⟨#[71, 69, 84]⟩ : ByteArray))) (fun _ hk => hk.2) (.string (⟨#[47, 97, 47, 46, 47, 98, 47, 37, 55, 101, 63, 113]⟩ : ByteArray))) (fun _ hk => hk.2) (.int .i64 0)) (fun _ hk => hk.2) (.string (⟨#[]⟩ : ByteArray))) (fun _ hk => hk.2) (.int .i64 1)) (fun _ hk => hk.2) (.slice Ao44 y633.length co44)) (fun _ h_ => h_.1))) hb); have n5_ := Aside0.mk (Kd.R_below (by (with_reducible repeat (first | apply Kd.R_alloc | apply Kd.R_drewN | apply Kd.R_drew)); exact (Kd.R_mono (Kd.R_far (p := ⟨gb618, 5, none⟩) (Kd.R_far (p := ⟨gb618, 4, none⟩) (Kd.R_far (p := ⟨gb618, 3, none⟩) (Kd.R_far (p := ⟨gb618, 2, none⟩) (Kd.R_far (p := ⟨gb618, 1, none⟩) (Kd.R_far (p := ⟨gb618, 0, none⟩) (Kd.R_types HO635.out BK618.out (by decide)) (fun _ hk => hk.2) (.string (⟨#[71, 69, 84]⟩ : ByteArray))) (fun _ hk => hk.2) (.string (⟨#[47, 97, 47, 46, 47, 98, 47, 37, 55, 101, 63, 113]⟩ : ByteArray))) (fun _ hk => hk.2) (.int .i64 0)) (fun _ hk => hk.2) (.string (⟨#[]⟩ : ByteArray))) (fun _ hk => hk.2) (.int .i64 1)) (fun _ hk => hk.2) (.slice Ao44 y633.length co44)) (fun _ h_ => h_.1))) hb); have n6_ := Aside0.mk (Kd.R_lower (Kd.R_new' ho48 (Kd.R_lt (by (with_reducible repeat (first | apply Kd.R_alloc | apply Kd.R_drewN | apply Kd.R_drew)); exact (Kd.R_mono (Kd.R_far (p := ⟨gb618, 5, none⟩) (Kd.R_far (p := ⟨gb618, 4, none⟩) (Kd.R_far (p := ⟨gb618, 3, none⟩) (Kd.R_far (p := ⟨gb618, 2, none⟩) (Kd.R_far (p := ⟨gb618, 1, none⟩) (Kd.R_far (p := ⟨gb618, 0, none⟩) (Kd.R_types HO629.out BK618.out (by decide)) (fun _ hk => hk.2) (.string (⟨#[71, 69, 84]⟩ : ByteArray))) (fun _ hk => hk.2) (.string (⟨#[47, 97, 47, 46, 47, 98, 47, 37, 55, 101, 63, 113]⟩ : ByteArray))) (fun _ hk => hk.2) (.int .i64 0)) (fun _ hk => hk.2) (.string (⟨#[]⟩ : ByteArray))) (fun _ hk => hk.2) (.int .i64 1)) (fun _ hk => hk.2) (.slice Ao44 y633.length co44)) (fun _ h_ => h_.1))))) (below_size (by repeat (first | (with_reducible first | exact HB.out | apply below_alloc | apply pw_below_drewN | apply below_drew1 | refine below_set ?_ GE618.out | refine below_set ?_ GE619.out) | exact HB.out)))); have n7_ := Aside0.mk (blk_below (g := gb618) (o := .cells #[.string (⟨#[71, 69, 84]⟩ : ByteArray), .string (⟨#[47, 97, 47, 46, 47, 98, 47, 37, 55, 101, 63, 113]⟩ : ByteArray), .int .i64 0, .string (⟨#[]⟩ : ByteArray), .int .i64 1, .slice Ao44 y633.length co44, .string t608] 26 (0, 0)) (by (with_reducible repeat (first | refine blk_drewN ?_ _ | refine blk_drew ?_ | refine blk_alloc ?_ _)); refine blk_put (cs := #[.string (⟨#[71, 69, 84]⟩ : ByteArray), .string (⟨#[47, 97, 47, 46, 47, 98, 47, 37, 55, 101, 63, 113]⟩ : ByteArray), .int .i64 0, .string (⟨#[]⟩ : ByteArray), .int .i64 1, .slice Ao16 t605.length co16, .string t608]) ?_ 5 _ rfl; (with_reducible repeat (first | refine blk_drewN ?_ _ | refine blk_drew ?_ | refine blk_alloc ?_ _)); refine blk_put (cs := #[.string (⟨#[71, 69, 84]⟩ : ByteArray), .string (⟨#[47, 97, 47, 46, 47, 98, 47, 37, 55, 101, 63, 113]⟩ : ByteArray), .int .i64 0, .string (⟨#[]⟩ : ByteArray), .int .i64 t604, .slice Ao16 t605.length co16, .string t608]) ?_ 4 _ rfl; (with_reducible repeat (first | refine blk_drewN ?_ _ | refine blk_drew ?_ | refine blk_alloc ?_ _)); refine blk_put (cs := #[.string (⟨#[71, 69, 84]⟩ : ByteArray), .string (⟨#[47, 97, 47, 46, 47, 98, 47, 37, 55, 101, 63, 113]⟩ : ByteArray), .int .i64 0, .string t603, .int .i64 t604, .slice Ao16 t605.length co16, .string t608]) ?_ 3 _ rfl; (with_reducible repeat (first | refine blk_drewN ?_ _ | refine blk_drew ?_ | refine blk_alloc ?_ _)); refine blk_put (cs := #[.string (⟨#[71, 69, 84]⟩ : ByteArray), .string (⟨#[47, 97, 47, 46, 47, 98, 47, 37, 55, 101, 63, 113]⟩ : ByteArray), .int .i64 t602, .string t603, .int .i64 t604, .slice Ao16 t605.length co16, .string t608]) ?_ 2 _ rfl; (with_reducible repeat (first | refine blk_drewN ?_ _ | refine blk_drew ?_ | refine blk_alloc ?_ _)); refine blk_put (cs := #[.string (⟨#[71, 69, 84]⟩ : ByteArray), .string t601, .int .i64 t602, .string t603, .int .i64 t604, .slice Ao16 t605.length co16, .string t608]) ?_ 1 _ rfl; (with_reducible repeat (first | refine blk_drewN ?_ _ | refine blk_drew ?_ | refine blk_alloc ?_ _)); refine blk_put (cs := #[.string t600, .string t601, .int .i64 t602, .string t603, .int .i64 t604, .slice Ao16 t605.length co16, .string t608]) ?_ 0 _ rfl; (with_reducible repeat (first | refine blk_drewN ?_ _ | refine blk_drew ?_ | refine blk_alloc ?_ _)); exact BK618.out) hb); have n8_ := Aside0.mk (blk_below (g := gb619) (o := .cells #[.string t609, .string t610, .int .i64 t611, .string t612, .int .i64 t613, .slice Ao18 t614.length co18, .string t617] 26 (0, 0)) (by (with_reducible repeat (first | refine blk_drewN ?_ _ | refine blk_drew ?_ | refine blk_alloc ?_ _)); refine blk_far ?_ NB619_618.out _; (with_reducible repeat (first | refine blk_drewN ?_ _ | refine blk_drew ?_ | refine blk_alloc ?_ _)); refine blk_far ?_ NB619_618.out _; (with_reducible repeat (first | refine blk_drewN ?_ _ | refine blk_drew ?_ | refine blk_alloc ?_ _)); refine blk_far ?_ NB619_618.out _; (with_reducible repeat (first | refine blk_drewN ?_ _ | refine blk_drew ?_ | refine blk_alloc ?_ _)); refine blk_far ?_ NB619_618.out _; (with_reducible repeat (first | refine blk_drewN ?_ _ | refine blk_drew ?_ | refine blk_alloc ?_ _)); refine blk_far ?_ NB619_618.out _; (with_reducible repeat (first | refine blk_drewN ?_ _ | refine blk_drew ?_ | refine blk_alloc ?_ _)); refine blk_far ?_ NB619_618.out _; (with_reducible repeat (first | refine blk_drewN ?_ _ | refine blk_drew ?_ | refine blk_alloc ?_ _)); exact BK619.out) hb); have n9_ := Aside0.mk (below_step (by repeat (first | (with_reducible first | exact HB.out | apply below_alloc | apply pw_below_drewN | apply below_drew1 | refine below_set ?_ GE618.out | refine below_set ?_ GE619.out) | exact HB.out)) hb); clear HO_11; clear HO_619005; clear HO_620005; clear HO629; clear HO632; clear HO635; clear BK618; clear BK619; clear HB; have HO_11 := n0_; have HO_619005 := n1_; have HO_620005 := n2_; have HO629 := n3_; have HO632 := n4_; have HO635 := n5_; have HO638 := n6_; have BK618 := n7_; have BK619 := n8_; have HB := n9_; clear n0_ n1_ n2_ n3_ n4_ n5_ n6_ n7_ n8_ n9_; clear hb ho48; obtain ⟨Ao49, co49, eo49⟩ := Kd.R_slice HO638.out; subst eo49) | ((with_reducible refine gate_callee (f := 23) rfl ?_); refine goesL_ (some 46) rfl rfl Tryz.func23 (by kernel_rfl) rfl #[.slice Ao18 t614.length co18, .slice Ao49 y636.length co49] rfl (by (try simp only [List.map_toArray, List.map_cons, List.map_nil]); first | done | rfl | (simp only [List.length_drop, List.length_take]; rfl)) ?_; (with_reducible refine (lockageref05_Drop.calls kj7 _ _ t614 _ _ y636 t639 _ ?side1 ?side2 ?side3 ?side4 A30.out).mono ?_); (case side1 => repeat (first | exact (Kd.R_reads' HO_620005.out).2.2 | (with_reducible refine Kd.C_alloc ?_ _) | (with_reducible refine Kd.C_drewN ?_ _) | (with_reducible refine Kd.C_drew ?_))); (case side2 => exact (Kd.R_reads' HO_620005.out).2.1); (case side3 => repeat (first | exact (Kd.R_reads' HO638.out).2.2 | (with_reducible refine Kd.C_alloc ?_ _) | (with_reducible refine Kd.C_drewN ?_ _) | (with_reducible refine Kd.C_drew ?_))); (case side4 => exact (Kd.R_reads' HO638.out).2.1); rintro e w50 ⟨v640, rfl, ho0, hb⟩; refine ⟨_, rfl, ?_⟩; have n0_ := Aside0.mk (Kd.R_elder' (by (with_reducible repeat (first | apply Kd.R_alloc | apply Kd.R_drewN | apply Kd.R_drew)); exact HO_11.out) (Kd.R_base ho0) hb); have n1_ := Aside0.mk (Kd.R_elder' (by (with_reducible repeat (first | apply Kd.R_alloc | apply Kd.R_drewN | apply Kd.R_drew)); exact HO_619005.out) (Kd.R_base ho0) hb); have n2_ := Aside0.mk (Kd.R_elder' (by (with_reducible repeat (first | apply Kd.R_alloc | apply Kd.R_drewN | apply Kd.R_drew)); exact HO_620005.out) (Kd.R_base ho0) hb); have n3_ := Aside0.mk (Kd.R_below (by (with_reducible repeat (first | apply Kd.R_alloc | apply Kd.R_drewN | apply Kd.R_drew)); exact HO629.out) hb); have n4_ := Aside0.mk (Kd.R_elder' (by (with_reducible repeat (first | apply Kd.R_alloc | apply Kd.R_drewN | apply Kd.R_drew)); exact HO632.out) (Kd.R_base ho0) hb); have n5_ := Aside0.mk (Kd.R_elder' (by (with_reducible repeat (first | apply Kd.R_alloc | apply Kd.R_drewN | apply Kd.R_drew)); exact HO635.out) (Kd.R_base ho0) hb); have n6_ := Aside0.mk (Kd.R_below (by (with_reducible repeat (first | apply Kd.R_alloc | apply Kd.R_drewN | apply Kd.R_drew)); exact HO638.out) hb); have n7_ := Aside0.mk (Kd.R_lower (Kd.R_new' (Kd.R_new' (Kd.R_new' (Kd.R_new' (Kd.R_new' ho0 (Kd.R_lt (by (with_reducible repeat (first | apply Kd.R_alloc | apply Kd.R_drewN | apply Kd.R_drew)); exact HO_11.out))) (Kd.R_lt (by (with_reducible repeat (first | apply Kd.R_alloc | apply Kd.R_drewN | apply Kd.R_drew)); exact HO_619005.out))) (Kd.R_lt (by (with_reducible repeat (first | apply Kd.R_alloc | apply Kd.R_drewN | apply Kd.R_drew)); exact HO_620005.out))) (Kd.R_lt (by (with_reducible repeat (first | apply Kd.R_alloc | apply Kd.R_drewN | apply Kd.R_drew)); exact HO632.out))) (Kd.R_lt (by (with_reducible repeat (first | apply Kd.R_alloc | apply Kd.R_drewN | apply Kd.R_drew)); exact HO635.out))) (below_size (by repeat (first | (with_reducible first | exact HB.out | apply below_alloc | apply pw_below_drewN | apply below_drew1 | refine below_set ?_ GE618.out | refine below_set ?_ GE619.out) | exact HB.out)))); have n8_ := Aside0.mk (blk_below (g := gb618) (o := .cells #[.string (⟨#[71, 69, 84]⟩ : ByteArray), .string (⟨#[47, 97, 47, 46, 47, 98, 47, 37, 55, 101, 63, 113]⟩ : ByteArray), .int .i64 0, .string (⟨#[]⟩ : ByteArray), .int .i64 1, .slice Ao44 y633.length co44, .string t608] 26 (0, 0)) (by (with_reducible repeat (first | refine blk_drewN ?_ _ | refine blk_drew ?_ | refine blk_alloc ?_ _)); exact BK618.out) hb); have n9_ := Aside0.mk (blk_below (g := gb619) (o := .cells #[.string t609, .string t610, .int .i64 t611, .string t612, .int .i64 t613, .slice Ao18 t614.length co18, .string t617] 26 (0, 0)) (by (with_reducible repeat (first | refine blk_drewN ?_ _ | refine blk_drew ?_ | refine blk_alloc ?_ _)); exact BK619.out) hb); have n10_ := Aside0.mk (below_step (by repeat (first | (with_reducible first | exact HB.out | apply below_alloc | apply pw_below_drewN | apply below_drew1 | refine below_set ?_ GE618.out | refine below_set ?_ GE619.out) | exact HB.out)) hb); clear HO_11; clear HO_619005; clear HO_620005; clear HO629; clear HO632; clear HO635; clear HO638; clear BK618; clear BK619; clear HB; have HO_11 := n0_; have HO_619005 := n1_; have HO_620005 := n2_; have HO629 := n3_; have HO632 := n4_; have HO635 := n5_; have HO638 := n6_; have HO641 := n7_; have BK618 := n8_; have BK619 := n9_; have HB := n10_; clear n0_ n1_ n2_ n3_ n4_ n5_ n6_ n7_ n8_ n9_ n10_; (try clear hb); (try clear hb2); (try clear hk); (try clear hi); (try clear ho0); obtain ⟨Ao52, co52, eo52⟩ := Kd.R_slice HO_11.out; subst eo52) | ((with_reducible refine gate_builtin (b := .append) (xs := #[.tmp 46, .tmp 47]) rfl ?_); at_builtin; refine Kd.R_append_rows k37 (w0 := w) w.heap.size rfl (.tmp 46) (.tmp 47) 22 37 (.agg #[(.string ⟨#[]⟩), (.string ⟨#[]⟩)]) 32 rfl Tryz.underlying22 info37 rfl (by decide) (by omega) v640 t639 x11_7 _ _ _ (fun k_ => some k_ ≠ (.slice Ao52 x11_7.length co52 : Value).ownBlock ∧ some k_ ≠ (.slice Ao16 t605.length co16 : Value).ownBlock ∧ some k_ ≠ (.slice Ao18 t614.length co18 : Value).ownBlock ∧ some k_ ≠ (.slice Ao43 t630.length co43 : Value).ownBlock ∧ some k_ ≠ (.slice Ao44 y633.length co44 : Value).ownBlock) (fun _ => False) rfl rfl ?aO ?aR (fun _ _ h => h) (fun _ h => h.elim) ?aF ?aB ?aS ?aL ?_; (case aR => repeat (first | exact (Kd.R_reads' HO_11.out).2.2 | (with_reducible refine Kd.C_alloc ?_ _) | (with_reducible refine Kd.C_drewN ?_ _) | (with_reducible refine Kd.C_drew ?_))); (case aB => exact (by repeat (first | (with_reducible first | exact HB.out | apply below_alloc | apply pw_below_drewN | apply below_drew1 | refine below_set ?_ GE618.out | refine below_set ?_ GE619.out) | exact HB.out))); (case aF => exact (fun k_ hk => ⟨Kd.fresh' (Kd.R_lt (by (with_reducible repeat (first | apply Kd.R_alloc | apply Kd.R_drewN | apply Kd.R_drew)); exact HO_11.out)) k_ hk, Kd.fresh' (Kd.R_lt (by (with_reducible repeat (first | apply Kd.R_alloc | apply Kd.R_drewN | apply Kd.R_drew)); exact HO_619005.out)) k_ hk, Kd.fresh' (Kd.R_lt (by (with_reducible repeat (first | apply Kd.R_alloc | apply Kd.R_drewN | apply Kd.R_drew)); exact HO_620005.out)) k_ hk, Kd.fresh' (Kd.R_lt (by (with_reducible repeat (first | apply Kd.R_alloc | apply Kd.R_drewN | apply Kd.R_drew)); exact HO632.out)) k_ hk, Kd.fresh' (Kd.R_lt (by (with_reducible repeat (first | apply Kd.R_alloc | apply Kd.R_drewN | apply Kd.R_drew)); exact HO635.out)) k_ hk⟩)); (case aO => exact (by (with_reducible repeat (first | apply Kd.R_alloc | apply Kd.R_drewN | apply Kd.R_drew)); exact Kd.R_mono HO641.out (fun _ hk => ⟨hk.1.1.1.1.2, ⟨hk.1.1.1.2, ⟨hk.1.1.2, ⟨hk.1.2, hk.2⟩⟩⟩⟩))); (case aS => exact (below_size (by repeat (first | (with_reducible first | exact HB.out | apply below_alloc | apply pw_below_drewN | apply below_drew1 | refine below_set ?_ GE618.out | refine below_set ?_ GE619.out) | exact HB.out)))); (case aL => have := LMc31.out; omega); intro v643 w51 ho hb hg hat; rw [← Ny642.out] at ho; have n0_ := Aside0.mk (Kd.R_after (ok := (fun k_ => some k_ ≠ (.slice Ao16 t605.length co16 : Value).ownBlock ∧ some k_ ≠ (.slice Ao18 t614.length co18 : Value).ownBlock ∧ some k_ ≠ (.slice Ao43 t630.length co43 : Value).ownBlock ∧ some k_ ≠ (.slice Ao44 y633.length co44 : Value).ownBlock)) (by (with_reducible repeat (first | apply Kd.R_alloc | apply Kd.R_drewN | apply Kd.R_drew)); exact Kd.R_mono HO_11.out (fun _ hk => ⟨⟨hk.1.1.1, ⟨hk.1.1.2.1, ⟨hk.1.1.2.2, hk.1.2⟩⟩⟩, hk.2⟩)) hg hat); have n1_ := Aside0.mk (Kd.R_after (ok := (fun k_ => some k_ ≠ (.slice Ao52 x11_7.length co52 : Value).ownBlock ∧ some k_ ≠ (.slice Ao18 t614.length co18 : Value).ownBlock ∧ some k_ ≠ (.slice Ao43 t630.length co43 : Value).ownBlock ∧ some k_ ≠ (.slice Ao44 y633.length co44 : Value).ownBlock)) (by (with_reducible repeat (first | apply Kd.R_alloc | apply Kd.R_drewN | apply Kd.R_drew)); exact Kd.R_mono HO_619005.out (fun _ hk => ⟨⟨hk.1.1.1, ⟨hk.1.1.2.1, ⟨hk.1.1.2.2, hk.1.2⟩⟩⟩, hk.2⟩)) hg hat); have n2_ := Aside0.mk (Kd.R_after (ok := (fun k_ => some k_ ≠ (.slice Ao52 x11_7.length co52 : Value).ownBlock ∧ some k_ ≠ (.slice Ao16 t605.length co16 : Value).ownBlock ∧ some k_ ≠ (.slice Ao43 t630.length co43 : Value).ownBlock ∧ some k_ ≠ (.slice Ao44 y633.length co44 : Value).ownBlock)) (by (with_reducible repeat (first | apply Kd.R_alloc | apply Kd.R_drewN | apply Kd.R_drew)); exact Kd.R_mono HO_620005.out (fun _ hk => ⟨⟨hk.1.1.1, ⟨hk.1.1.2.1, ⟨hk.1.1.2.2, hk.1.2⟩⟩⟩, hk.2⟩)) hg hat); have n3_ := Aside0.mk (blk_grown (g := gb618) (o := .cells #[.string (⟨#[71, 69, 84]⟩ : ByteArray), .string (⟨#[47, 97, 47, 46, 47, 98, 47, 37, 55, 101, 63, 113]⟩ : ByteArray), .int .i64 0, .string (⟨#[]⟩ : ByteArray), .int .i64 1, .slice Ao44 y633.length co44, .string t608] 26 (0, 0)) (by (with_reducible repeat (first | refine blk_drewN ?_ _ | refine blk_drew ?_ | refine blk_alloc ?_ _)); exact BK618.out) hg (Kd.R_ne HO641.out BK618.out (by decide))); have n4_ := Aside0.mk (blk_grown (g := gb619) (o := .cells #[.string t609, .string t610, .int .i64 t611, .string t612, .int .i64 t613, .slice Ao18 t614.length co18, .string t617] 26 (0, 0)) (by (with_reducible repeat (first | refine blk_drewN ?_ _ | refine blk_drew ?_ | refine blk_alloc ?_ _)); exact BK619.out) hg (Kd.R_ne HO641.out BK619.out (by decide))); have n5_ := Aside0.mk (Kd.R_over' (by (with_reducible repeat (first | apply Kd.R_alloc | apply Kd.R_drewN | apply Kd.R_drew)); exact HO629.out) (Kd.R_typed (by (with_reducible repeat (first | apply Kd.R_alloc | apply Kd.R_drewN | apply Kd.R_drew)); exact HO641.out)) (by decide) hg); have n6_ := Aside0.mk (Kd.R_after (ok := (fun k_ => some k_ ≠ (.slice Ao52 x11_7.length co52 : Value).ownBlock ∧ some k_ ≠ (.slice Ao16 t605.length co16 : Value).ownBlock ∧ some k_ ≠ (.slice Ao18 t614.length co18 : Value).ownBlock ∧ some k_ ≠ (.slice Ao44 y633.length co44 : Value).ownBlock)) (by (with_reducible repeat (first | apply Kd.R_alloc | apply Kd.R_drewN | apply Kd.R_drew)); exact Kd.R_mono HO632.out (fun _ hk => ⟨⟨hk.1.1.1, ⟨hk.1.1.2.1, ⟨hk.1.1.2.2, hk.1.2⟩⟩⟩, hk.2⟩)) hg hat); have n7_ := Aside0.mk (Kd.R_after (ok := (fun k_ => some k_ ≠ (.slice Ao52 x11_7.length co52 : Value).ownBlock ∧ some k_ ≠ (.slice Ao16 t605.length co16 : Value).ownBlock ∧ some k_ ≠ (.slice Ao18 t614.length co18 : Value).ownBlock ∧ some k_ ≠ (.slice Ao43 t630.length co43 : Value).ownBlock)) (by (with_reducible repeat (first | apply Kd.R_alloc | apply Kd.R_drewN | apply Kd.R_drew)); exact HO635.out) hg hat); have n8_ := Aside0.mk (Kd.R_over' (by (with_reducible repeat (first | apply Kd.R_alloc | apply Kd.R_drewN | apply Kd.R_drew)); exact HO638.out) (Kd.R_typed (by (with_reducible repeat (first | apply Kd.R_alloc | apply Kd.R_drewN | apply Kd.R_drew)); exact HO641.out)) (by decide) hg); have n9_ := Aside0.mk (hb); have n10_ := Aside0.mk (ho); clear HO_11; clear HO_619005; clear HO_620005; clear BK618; clear BK619; clear HO629; clear HO632; clear HO635; clear HO638; clear HB; clear HO641; have HO_11 := n0_; have HO_619005 := n1_; have HO_620005 := n2_; have BK618 := n3_; have BK619 := n4_; have HO629 := n5_; have HO632 := n6_; have HO635 := n7_; have HO638 := n8_; have HB := n9_; have HO644 := n10_; clear n0_ n1_ n2_ n3_ n4_ n5_ n6_ n7_ n8_ n9_ n10_; clear ho hb hg hat; obtain ⟨Ao53, co53, eo53⟩ := Kd.R_slice HO644.out; subst eo53; have hcz54_0 : w51.cell? ⟨gb619, 0, none⟩ = some (.string t609) := (blk_cell BK619.out 0).trans rfl; have hcz54_1 : w51.cell? ⟨gb619, 1, none⟩ = some (.string t610) := (blk_cell BK619.out 1).trans rfl; have hcz54_2 : w51.cell? ⟨gb619, 2, none⟩ = some (.int .i64 t611) := (blk_cell BK619.out 2).trans rfl; have hcz54_3 : w51.cell? ⟨gb619, 3, none⟩ = some (.string t612) := (blk_cell BK619.out 3).trans rfl; have hcz54_4 : w51.cell? ⟨gb619, 4, none⟩ = some (.int .i64 t613) := (blk_cell BK619.out 4).trans rfl; have hcz54_5 : w51.cell? ⟨gb619, 5, none⟩ = some (.slice Ao18 t614.length co18) := (blk_cell BK619.out 5).trans rfl; have hcz54_6 : w51.cell? ⟨gb619, 6, none⟩ = some (.string t617) := (blk_cell BK619.out 6).trans rfl; have hfz54_0 := blk_frozen BK619.out 0; have hfz54_1 := blk_frozen BK619.out 1; have hfz54_2 := blk_frozen BK619.out 2; have hfz54_3 := blk_frozen BK619.out 3; have hfz54_4 := blk_frozen BK619.out 4; have hfz54_5 := blk_frozen BK619.out 5; have hfz54_6 := blk_frozen BK619.out 6; have hcz55_0 : w51.cell? ⟨gb618, 0, none⟩ = some (.string (⟨#[71, 69, 84]⟩ : ByteArray)) := (blk_cell BK618.out 0).trans rfl; have hcz55_1 : w51.cell? ⟨gb618, 1, none⟩ = some (.string (⟨#[47, 97, 47, 46, 47, 98, 47, 37, 55, 101, 63, 113]⟩ : ByteArray)) := (blk_cell BK618.out 1).trans rfl; have hcz55_2 : w51.cell? ⟨gb618, 2, none⟩ = some (.int .i64 0) := (blk_cell BK618.out 2).trans rfl; have hcz55_3 : w51.cell? ⟨gb618, 3, none⟩ = some (.string (⟨#[]⟩ : ByteArray)) := (blk_cell BK618.out 3).trans rfl; have hcz55_4 : w51.cell? ⟨gb618, 4, none⟩ = some (.int .i64 1) := (blk_cell BK618.out 4).trans rfl; have hcz55_5 : w51.cell? ⟨gb618, 5, none⟩ = some (.slice Ao44 y633.length co44) := (blk_cell BK618.out 5).trans rfl; have hcz55_6 : w51.cell? ⟨gb618, 6, none⟩ = some (.string t608) := (blk_cell BK618.out 6).trans rfl; have hfz55_0 := blk_frozen BK618.out 0; have hfz55_1 := blk_frozen BK618.out 1; have hfz55_2 := blk_frozen BK618.out 2; have hfz55_3 := blk_frozen BK618.out 3; have hfz55_4 := blk_frozen BK618.out 4; have hfz55_5 := blk_frozen BK618.out 5; have hfz55_6 := blk_frozen BK618.out 6) | ((with_reducible refine gate_callee (f := 24) rfl ?_); refine goesL_ (some 53) rfl rfl Tryz.func24 (by kernel_rfl) rfl #[.agg #[.string (⟨#[71, 69, 84]⟩ : ByteArray), .string (⟨#[47, 97, 47, 46, 47, 98, 47, 37, 55, 101, 63, 113]⟩ : ByteArray), .int .i64 0, .string (⟨#[]⟩ : ByteArray), .int .i64 1, .slice Ao44 y633.length co44, .string t608]] rfl (by (try simp only [List.map_toArray, List.map_cons, List.map_nil]); first | done | rfl | (simp only [List.length_drop, List.length_take]; rfl)) ?_; (with_reducible refine (key_Key.calls kj7 (⟨#[71, 69, 84]⟩ : ByteArray) (⟨#[47, 97, 47, 46, 47, 98, 47, 37, 55, 101, 63, 113]⟩ : ByteArray) 0 (⟨#[]⟩ : ByteArray) 1 _ _ y633 t608 t645 t646 _ ?side1 ?side2 A32.out).mono ?_); (case side1 => refine (Kd.R_reads' (e := 37) (base := w.heap.size) (ok := fun k_ => ((some k_ ≠ (.slice Ao52 x11_7.length co52 : Value).ownBlock ∧ (some k_ ≠ (.slice Ao16 t605.length co16 : Value).ownBlock ∧ (some k_ ≠ (.slice Ao18 t614.length co18 : Value).ownBlock ∧ some k_ ≠ (.slice Ao43 t630.length co43 : Value).ownBlock))) ∧ some k_ ≠ (.slice Ao53 y642.length co53 : Value).ownBlock)) (n := y633.length) (c := co44) ?_).2.2; exact (by (with_reducible repeat (first | apply Kd.R_alloc | apply Kd.R_drewN | apply Kd.R_drew)); exact (Kd.R_mono (Kd.R_far (p := ⟨gb619, 5, none⟩) (Kd.R_far (p := ⟨gb619, 4, none⟩) (Kd.R_far (p := ⟨gb619, 3, none⟩) (Kd.R_far (p := ⟨gb619, 2, none⟩) (Kd.R_far (p := ⟨gb619, 1, none⟩) (Kd.R_far (p := ⟨gb619, 0, none⟩) (Kd.R_types HO635.out BK619.out (by decide)) (fun _ hk => hk.2) (.string (⟨#[71, 69, 84]⟩ : ByteArray))) (fun _ hk => hk.2) (.string (⟨#[47, 97, 47, 99, 47, 46, 46, 47, 98, 47, 126, 63, 113]⟩ : ByteArray))) (fun _ hk => hk.2) (.int .i64 0)) (fun _ hk => hk.2) (.string (⟨#[]⟩ : ByteArray))) (fun _ hk => hk.2) (.int .i64 0)) (fun _ hk => hk.2) (.slice Ao53 y642.length co53)) (fun _ h_ => h_.1)))); (case side2 => exact (Kd.R_reads' HO635.out).2.1); rintro e w56 ⟨rfl, hb⟩; refine ⟨_, rfl, ?_⟩; have n0_ := Aside0.mk (Kd.R_below (by (with_reducible repeat (first | apply Kd.R_alloc | apply Kd.R_drewN | apply Kd.R_drew)); exact (Kd.R_mono (Kd.R_far (p := ⟨gb619, 5, none⟩) (Kd.R_far (p := ⟨gb619, 4, none⟩) (Kd.R_far (p := ⟨gb619, 3, none⟩) (Kd.R_far (p := ⟨gb619, 2, none⟩) (Kd.R_far (p := ⟨gb619, 1, none⟩) (Kd.R_far (p := ⟨gb619, 0, none⟩) (Kd.R_types HO_11.out BK619.out (by decide)) (fun _ hk => hk.2) (.string (⟨#[71, 69, 84]⟩ : ByteArray))) (fun _ hk => hk.2) (.string (⟨#[47, 97, 47, 99, 47, 46, 46, 47, 98, 47, 126, 63, 113]⟩ : ByteArray))) (fun _ hk => hk.2) (.int .i64 0)) (fun _ hk => hk.2) (.string (⟨#[]⟩ : ByteArray))) (fun _ hk => hk.2) (.int .i64 0)) (fun _ hk => hk.2) (.slice Ao53 y642.length co53)) (fun _ h_ => h_.1))) hb); have n1_ := Aside0.mk (Kd.R_below (by (with_reducible repeat (first | apply Kd.R_alloc | apply Kd.R_drewN | apply Kd.R_drew)); exact (Kd.R_mono (Kd.R_far (p := ⟨gb619, 5, none⟩) (Kd.R_far (p := ⟨gb619, 4, none⟩) (Kd.R_far (p := ⟨gb619, 3, none⟩) (Kd.R_far (p := ⟨gb619, 2, none⟩) (Kd.R_far (p := ⟨gb619, 1, none⟩) (Kd.R_far (p := ⟨gb619, 0, none⟩) (Kd.R_types HO_619005.out BK619.out (by decide)) (fun _ hk => hk.2) (.string (⟨#[71, 69, 84]⟩ : ByteArray))) (fun _ hk => hk.2) (.string (⟨#[47, 97, 47, 99, 47, 46, 46, 47, 98, 47, 126, 63, 113]⟩ : ByteArray))) (fun _ hk => hk.2) (.int .i64 0)) (fun _ hk => hk.2) (.string (⟨#[]⟩ : ByteArray))) (fun _ hk => hk.2) (.int .i64 0)) (fun _ hk => hk.2) (.slice Ao53 y642.length co53)) (fun _ h_ => h_.1))) hb); have n2_ := Aside0.mk (Kd.R_below (by (with_reducible repeat (first | apply Kd.R_alloc | apply Kd.R_drewN | apply Kd.R_drew)); exact (Kd.R_mono (Kd.R_far (p := ⟨gb619, 5, none⟩) (Kd.R_far (p := ⟨gb619, 4, none⟩) (Kd.R_far (p := ⟨gb619, 3, none⟩) (Kd.R_far (p := ⟨gb619, 2, none⟩) (Kd.R_far (p := ⟨gb619, 1, none⟩) (Kd.R_far (p := ⟨gb619, 0, none⟩) (Kd.R_types HO_620005.out BK619.out (by decide)) (fun _ hk => hk.2) (.string (⟨#[71, 69, 84]⟩ : ByteArray))) (fun _ hk => hk.2) (.string (⟨#[47, 97, 47, 99, 47, 46, 46, 47, 98, 47, 126, 63, 113]⟩ : ByteArray))) (fun _ hk => hk.2) (.int .i64 0)) (fun _ hk => hk.2) (.string (⟨#[]⟩ : ByteArray))) (fun _ hk => hk.2) (.int .i64 0)) (fun _ hk => hk.2) (.slice Ao53 y642.length co53)) (fun _ h_ => h_.1))) hb); have n3_ := Aside0.mk (Kd.R_below (by (with_reducible repeat (first | apply Kd.R_alloc | apply Kd.R_drewN | apply Kd.R_drew)); exact (Kd.R_mono (Kd.R_far (p := ⟨gb619, 5, none⟩) (Kd.R_far (p := ⟨gb619, 4, none⟩) (Kd.R_far (p := ⟨gb619, 3, none⟩) (Kd.R_far (p := ⟨gb619, 2, none⟩) (Kd.R_far (p := ⟨gb619, 1, none⟩) (Kd.R_far (p := ⟨gb619, 0, none⟩) (Kd.R_types HO629.out BK619.out (by decide)) (fun _ hk => hk.2) (.string (⟨#[71, 69, 84]⟩ : ByteArray))) (fun _ hk => hk.2) (.string (⟨#[47, 97, 47, 99, 47, 46, 46, 47, 98, 47, 126, 63, 113]⟩ : ByteArray))) (fun _ hk => hk.2) (.int .i64 0)) (fun _ hk => hk.2) (.string (⟨#[]⟩ : ByteArray))) (fun _ hk => hk.2) (.int .i64 0)) (fun _ hk => hk.2) (.slice Ao53 y642.length co53)) (fun _ h_ => h_.1))) hb); have n4_ := Aside0.mk (Kd.R_below (by (with_reducible repeat (first | apply Kd.R_alloc | apply Kd.R_drewN | apply Kd.R_drew)); exact (Kd.R_mono (Kd.R_far (p := ⟨gb619, 5, none⟩) (Kd.R_far (p := ⟨gb619, 4, none⟩) (Kd.R_far (p := ⟨gb619, 3, none⟩) (Kd.R_far (p := ⟨gb619, 2, none⟩) (Kd.R_far (p := ⟨gb619, 1, none⟩) (Kd.R_far (p := ⟨gb619, 0, none⟩) (Kd.R_types HO632.out BK619.out (by decide)) (fun _ hk => hk.2) (.string (⟨#[71, 69, 84]⟩ : ByteArray))) (fun _ hk => hk.2) (.string (⟨#[47, 97, 47, 99, 47, 46, 46, 47, 98, 47, 126, 63, 113]⟩ : ByteArray))) (fun _ hk => hk.2) (.int .i64 0)) (fun _ hk => hk.2) (.string (⟨#[]⟩ : ByteArray))) (fun _ hk => hk.2) (.int .i64 0)) (fun _ hk => hk.2) (.slice Ao53 y642.length co53)) (fun _ h_ => h_.1))) hb); have n5_ := Aside0.mk (Kd.R_below (by (with_reducible repeat (first | apply Kd.R_alloc | apply Kd.R_drewN | apply Kd.R_drew)); exact (Kd.R_mono (Kd.R_far (p := ⟨gb619, 5, none⟩) (Kd.R_far (p := ⟨gb619, 4, none⟩) (Kd.R_far (p := ⟨gb619, 3, none⟩) (Kd.R_far (p := ⟨gb619, 2, none⟩) (Kd.R_far (p := ⟨gb619, 1, none⟩) (Kd.R_far (p := ⟨gb619, 0, none⟩) (Kd.R_types HO635.out BK619.out (by decide)) (fun _ hk => hk.2) (.string (⟨#[71, 69, 84]⟩ : ByteArray))) (fun _ hk => hk.2) (.string (⟨#[47, 97, 47, 99, 47, 46, 46, 47, 98, 47, 126, 63, 113]⟩ : ByteArray))) (fun _ hk => hk.2) (.int .i64 0)) (fun _ hk => hk.2) (.string (⟨#[]⟩ : ByteArray))) (fun _ hk => hk.2) (.int .i64 0)) (fun _ hk => hk.2) (.slice Ao53 y642.length co53)) (fun _ h_ => h_.1))) hb); have n6_ := Aside0.mk (Kd.R_below (by (with_reducible repeat (first | apply Kd.R_alloc | apply Kd.R_drewN | apply Kd.R_drew)); exact (Kd.R_mono (Kd.R_far (p := ⟨gb619, 5, none⟩) (Kd.R_far (p := ⟨gb619, 4, none⟩) (Kd.R_far (p := ⟨gb619, 3, none⟩) (Kd.R_far (p := ⟨gb619, 2, none⟩) (Kd.R_far (p := ⟨gb619, 1, none⟩) (Kd.R_far (p := ⟨gb619, 0, none⟩) (Kd.R_types HO638.out BK619.out (by decide)) (fun _ hk => hk.2) (.string (⟨#[71, 69, 84]⟩ : ByteArray))) (fun _ hk => hk.2) (.string (⟨#[47, 97, 47, 99, 47, 46, 46, 47, 98, 47, 126, 63, 113]⟩ : ByteArray))) (fun _ hk => hk.2) (.int .i64 0)) (fun _ hk => hk.2) (.string (⟨#[]⟩ : ByteArray))) (fun _ hk => hk.2) (.int .i64 0)) (fun _ hk => hk.2) (.slice Ao53 y642.length co53)) (fun _ h_ => h_.1))) hb); have n7_ := Aside0.mk (Kd.R_below (by (with_reducible repeat (first | apply Kd.R_alloc | apply Kd.R_drewN | apply Kd.R_drew)); exact (Kd.R_mono (Kd.R_far (p := ⟨gb619, 5, none⟩) (Kd.R_far (p := ⟨gb619, 4, none⟩) (Kd.R_far (p := ⟨gb619, 3, none⟩) (Kd.R_far (p := ⟨gb619, 2, none⟩) (Kd.R_far (p := ⟨gb619, 1, none⟩) (Kd.R_far (p := ⟨gb619, 0, none⟩) (Kd.R_types HO644.out BK619.out (by decide)) (fun _ hk => hk.2) (.string (⟨#[71, 69, 84]⟩ : ByteArray))) (fun _ hk => hk.2) (.string (⟨#[47, 97, 47, 99, 47, 46, 46, 47, 98, 47, 126, 63, 113]⟩ : ByteArray))) (fun _ hk => hk.2) (.int .i64 0)) (fun _ hk => hk.2) (.string (⟨#[]⟩ : ByteArray))) (fun _ hk => hk.2) (.int .i64 0)) (fun _ hk => hk.2) (.slice Ao53 y642.length co53)) (fun _ h_ => h_.1))) hb); have n8_ := Aside0.mk (blk_below (g := gb618) (o := .cells #[.string (⟨#[71, 69, 84]⟩ : ByteArray), .string (⟨#[47, 97, 47, 46, 47, 98, 47, 37, 55, 101, 63, 113]⟩ : ByteArray), .int .i64 0, .string (⟨#[]⟩ : ByteArray), .int .i64 1, .slice Ao44 y633.length co44, .string t608] 26 (0, 0)) (by (with_reducible repeat (first | refine blk_drewN ?_ _ | refine blk_drew ?_ | refine blk_alloc ?_ _)); refine blk_far ?_ NB618_619.out _; (with_reducible repeat (first | refine blk_drewN ?_ _ | refine blk_drew ?_ | refine blk_alloc ?_ _)); refine blk_far ?_ NB618_619.out _; (with_reducible repeat (first | refine blk_drewN ?_ _ | refine blk_drew ?_ | refine blk_alloc ?_ _)); refine blk_far ?_ NB618_619.out _; (with_reducible repeat (first | refine blk_drewN ?_ _ | refine blk_drew ?_ | refine blk_alloc ?_ _)); refine blk_far ?_ NB618_619.out _; (with_reducible repeat (first | refine blk_drewN ?_ _ | refine blk_drew ?_ | refine blk_alloc ?_ _)); refine blk_far ?_ NB618_619.out _; (with_reducible repeat (first | refine blk_drewN ?_ _ | refine blk_drew ?_ | refine blk_alloc ?_ _)); refine blk_far ?_ NB618_619.out _; (with_reducible repeat (first | refine blk_drewN ?_ _ | refine blk_drew ?_ | refine blk_alloc ?_ _)); exact BK618.out) hb); have n9_ := Aside0.mk (blk_below (g := gb619) (o := .cells #[.string (⟨#[71, 69, 84]⟩ : ByteArray), .string (⟨#[47, 97, 47, 99, 47, 46, 46, 47, 98, 47, 126, 63, 113]⟩ : ByteArray), .int .i64 0, .string (⟨#[]⟩ : ByteArray), .int .i64 0, .slice Ao53 y642.length co53, .string t617] 26 (0, 0)) (by (with_reducible repeat (first | refine blk_drewN ?_ _ | refine blk_drew ?_ | refine blk_alloc ?_ _)); refine blk_put (cs := #[.string (⟨#[71, 69, 84]⟩ : ByteArray), .string (⟨#[47, 97, 47, 99, 47, 46, 46, 47, 98, 47, 126, 63, 113]⟩ : ByteArray), .int .i64 0, .string (⟨#[]⟩ : ByteArray), .int .i64 0, .slice Ao18 t614.length co18, .string t617]) ?_ 5 _ rfl; (with_reducible repeat (first | refine blk_drewN ?_ _ | refine blk_drew ?_ | refine blk_alloc ?_ _)); refine blk_put (cs := #[.string (⟨#[71, 69, 84]⟩ : ByteArray), .string (⟨#[47, 97, 47, 99, 47, 46, 46, 47, 98, 47, 126, 63, 113]⟩ : ByteArray), .int .i64 0, .string (⟨#[]⟩ : ByteArray), .int .i64 t613, .slice Ao18 t614.length co18, .string t617]) ?_ 4 _ rfl; (with_reducible repeat (first | refine blk_drewN ?_ _ | refine blk_drew ?_ | refine blk_alloc ?_ _)); refine blk_put (cs := #[.string (⟨#[71, 69, 84]⟩ : ByteArray), .string (⟨#[47, 97, 47, 99, 47, 46, 46, 47, 98, 47, 126, 63, 113]⟩ : ByteArray), .int .i64 0, .string t612, .int .i64 t613, .slice Ao18 t614.length co18, .string t617]) ?_ 3 _ rfl; (with_reducible repeat (first | refine blk_drewN ?_ _ | refine blk_drew ?_ | refine blk_alloc ?_ _)); refine blk_put (cs := #[.string (⟨#[71, 69, 84]⟩ : ByteArray), .string (⟨#[47, 97, 47, 99, 47, 46, 46, 47, 98, 47, 126, 63, 113]⟩ : ByteArray), .int .i64 t611, .string t612, .int .i64 t613, .slice Ao18 t614.length co18, .string t617]) ?_ 2 _ rfl; (with_reducible repeat (first | refine blk_drewN ?_ _ | refine blk_drew ?_ | refine blk_alloc ?_ _)); refine blk_put (cs := #[.string (⟨#[71, 69, 84]⟩ : ByteArray), .string t610, .int .i64 t611, .string t612, .int .i64 t613, .slice Ao18 t614.length co18, .string t617]) ?_ 1 _ rfl; (with_reducible repeat (first | refine blk_drewN ?_ _ | refine blk_drew ?_ | refine blk_alloc ?_ _)); refine blk_put (cs := #[.string t609, .string t610, .int .i64 t611, .string t612, .int .i64 t613, .slice Ao18 t614.length co18, .string t617]) ?_ 0 _ rfl; (with_reducible repeat (first | refine blk_drewN ?_ _ | refine blk_drew ?_ | refine blk_alloc ?_ _)); exact BK619.out) hb); have n10_ := Aside0.mk (below_step (by repeat (first | (with_reducible first | exact HB.out | apply below_alloc | apply pw_below_drewN | apply below_drew1 | refine below_set ?_ GE618.out | refine below_set ?_ GE619.out) | exact HB.out)) hb); clear HO_11; clear HO_619005; clear HO_620005; clear HO629; clear HO632; clear HO635; clear HO638; clear HO644; clear BK618; clear BK619; clear HB; have HO_11 := n0_; have HO_619005 := n1_; have HO_620005 := n2_; have HO629 := n3_; have HO632 := n4_; have HO635 := n5_; have HO638 := n6_; have HO644 := n7_; have BK618 := n8_; have BK619 := n9_; have HB := n10_; clear n0_ n1_ n2_ n3_ n4_ n5_ n6_ n7_ n8_ n9_ n10_; (try clear hb); (try clear hb2); (try clear hk); (try clear hi); have hcz57_0 : w56.cell? ⟨gb619, 0, none⟩ = some (.string (⟨#[71, 69, 84]⟩ : ByteArray)) := (blk_cell BK619.out 0).trans rfl; have hcz57_1 : w56.cell? ⟨gb619, 1, none⟩ = some (.string (⟨#[47, 97, 47, 99, 47, 46, 46, 47, 98, 47, 126, 63, 113]⟩ : ByteArray)) := (blk_cell BK619.out 1).trans rfl; have hcz57_2 : w56.cell? ⟨gb619, 2, none⟩ = some (.int .i64 0) := (blk_cell BK619.out 2).trans rfl; have hcz57_3 : w56.cell? ⟨gb619, 3, none⟩ = some (.string (⟨#[]⟩ : ByteArray)) := (blk_cell BK619.out 3).trans rfl; have hcz57_4 : w56.cell? ⟨gb619, 4, none⟩ = some (.int .i64 0) := (blk_cell BK619.out 4).trans rfl; have hcz57_5 : w56.cell? ⟨gb619, 5, none⟩ = some (.slice Ao53 y642.length co53) := (blk_cell BK619.out 5).trans rfl; have hcz57_6 : w56.cell? ⟨gb619, 6, none⟩ = some (.string t617) := (blk_cell BK619.out 6).trans rfl; have hfz57_0 := blk_frozen BK619.out 0; have hfz57_1 := blk_frozen BK619.out 1; have hfz57_2 := blk_frozen BK619.out 2; have hfz57_3 := blk_frozen BK619.out 3; have hfz57_4 := blk_frozen BK619.out 4; have hfz57_5 := blk_frozen BK619.out 5; have hfz57_6 := blk_frozen BK619.out 6) | ((with_reducible refine gate_callee (f := 24) rfl ?_); refine goesL_ (some 58) rfl rfl Tryz.func24 (by kernel_rfl) rfl #[.agg #[.string (⟨#[71, 69, 84]⟩ : ByteArray), .string (⟨#[47, 97, 47, 99, 47, 46, 46, 47, 98, 47, 126, 63, 113]⟩ : ByteArray), .int .i64 0, .string (⟨#[]⟩ : ByteArray), .int .i64 0, .slice Ao53 y642.length co53, .string t617]] rfl (by (try simp only [List.map_toArray, List.map_cons, List.map_nil]); first | done | rfl | (simp only [List.length_drop, List.length_take]; rfl)) ?_; (with_reducible refine (key_Key.calls kj7 (⟨#[71, 69, 84]⟩ : ByteArray) (⟨#[47, 97, 47, 99, 47, 46, 46, 47, 98, 47, 126, 63, 113]⟩ : ByteArray) 0 (⟨#[]⟩ : ByteArray) 0 _ _ y642 t617 t647 t648 _ ?side1 ?side2 A33.out).mono ?_); (case side1 => repeat (first | exact (Kd.R_reads' HO644.out).2.2 | (with_reducible refine Kd.C_alloc ?_ _) | (with_reducible refine Kd.C_drewN ?_ _) | (with_reducible refine Kd.C_drew ?_))); (case side2 => exact (Kd.R_reads' HO644.out).2.1); rintro e w58 ⟨rfl, hb⟩; refine ⟨_, rfl, ?_⟩; have n0_ := Aside0.mk (Kd.R_below (by (with_reducible repeat (first | apply Kd.R_alloc | apply Kd.R_drewN | apply Kd.R_drew)); exact HO_11.out) hb); have n1_ := Aside0.mk (Kd.R_below (by (with_reducible repeat (first | apply Kd.R_alloc | apply Kd.R_drewN | apply Kd.R_drew)); exact HO_619005.out) hb); have n2_ := Aside0.mk (Kd.R_below (by (with_reducible repeat (first | apply Kd.R_alloc | apply Kd.R_drewN | apply Kd.R_drew)); exact HO_620005.out) hb); have n3_ := Aside0.mk (Kd.R_below (by (with_reducible repeat (first | apply Kd.R_alloc | apply Kd.R_drewN | apply Kd.R_drew)); exact HO629.out) hb); have n4_ := Aside0.mk (Kd.R_below (by (with_reducible repeat (first | apply Kd.R_alloc | apply Kd.R_drewN | apply Kd.R_drew)); exact HO632.out) hb); have n5_ := Aside0.mk (Kd.R_below (by (with_reducible repeat (first | apply Kd.R_alloc | apply Kd.R_drewN | apply Kd.R_drew)); exact HO635.out) hb); have n6_ := Aside0.mk (Kd.R_below (by (with_reducible repeat (first | apply Kd.R_alloc | apply Kd.R_drewN | apply Kd.R_drew)); exact HO638.out) hb); have n7_ := Aside0.mk (Kd.R_below (by (with_reducible repeat (first | apply Kd.R_alloc | apply Kd.R_drewN | apply Kd.R_drew)); exact HO644.out) hb); have n8_ := Aside0.mk (blk_below (g := gb618) (o := .cells #[.string (⟨#[71, 69, 84]⟩ : ByteArray), .string (⟨#[47, 97, 47, 46, 47, 98, 47, 37, 55, 101, 63, 113]⟩ : ByteArray), .int .i64 0, .string (⟨#[]⟩ : ByteArray), .int .i64 1, .slice Ao44 y633.length co44, .string t608] 26 (0, 0)) (by (with_reducible repeat (first | refine blk_drewN ?_ _ | refine blk_drew ?_ | refine blk_alloc ?_ _)); exact BK618.out) hb); have n9_ := Aside0.mk (blk_below (g := gb619) (o := .cells #[.string (⟨#[71, 69, 84]⟩ : ByteArray), .string (⟨#[47, 97, 47, 99, 47, 46, 46, 47, 98, 47, 126, 63, 113]⟩ : ByteArray), .int .i64 0, .string (⟨#[]⟩ : ByteArray), .int .i64 0, .slice Ao53 y642.length co53, .string t617] 26 (0, 0)) (by (with_reducible repeat (first | refine blk_drewN ?_ _ | refine blk_drew ?_ | refine blk_alloc ?_ _)); exact BK619.out) hb); have n10_ := Aside0.mk (below_step (by repeat (first | (with_reducible first | exact HB.out | apply below_alloc | apply pw_below_drewN | apply below_drew1 | refine below_set ?_ GE618.out | refine below_set ?_ GE619.out) | exact HB.out)) hb); clear HO_11; clear HO_619005; clear HO_620005; clear HO629; clear HO632; clear HO635; clear HO638; clear HO644; clear BK618; clear BK619; clear HB; have HO_11 := n0_; have HO_619005 := n1_; have HO_620005 := n2_; have HO629 := n3_; have HO632 := n4_; have HO635 := n5_; have HO638 := n6_; have HO644 := n7_; have BK618 := n8_; have BK619 := n9_; have HB := n10_; clear n0_ n1_ n2_ n3_ n4_ n5_ n6_ n7_ n8_ n9_ n10_; (try clear hb); (try clear hb2); (try clear hk); (try clear hi)))
        go_ret
        exact ⟨by first | rfl | (simp [errW_none, errW_some] <;> rfl) | (simp [*, errW_none, errW_some] <;> rfl), by repeat (first | (with_reducible first | exact HB.out | apply below_alloc | apply pw_below_drewN | apply below_drew1 | refine below_set ?_ GE618.out | refine below_set ?_ GE619.out) | exact HB.out)⟩
       ·rw [if_neg c35] at H
        exact absurd H (by simp)
      ·rw [if_neg c34] at H
       exact absurd H (by simp)
     ·rw [if_neg c31] at H
      exact absurd H (by simp)
    ·rw [if_neg c29] at H
     exact absurd H (by simp)
 ·replace c5 := Bool.eq_false_iff.mpr c5
  subst c5
  have H1 : (none) = some r := by rw [if_neg (show ¬ (false = true) by decide)] at H; exact H
  clear H
  have H := H1
  clear H1
  exact absurd H (by simp)

def lockagelaw16_KeySame.Pure : Prop := ∀ (l0 : List Int) (l1 : List Int) (a2 : Int), l0.length ≤ maxLen → l0.length * 1 ≤ 140737488351232 → (∀ x ∈ l0, (Lit.int .u8 x).wf = true) → l1.length ≤ maxLen → l1.length * 1 ≤ 140737488351232 → (∀ x ∈ l1, (Lit.int .u8 x).wf = true) → (Lit.int .u8 a2).wf = true → ∃ k, lockagelaw16_KeySame.f k l0 l1 a2 = some true
theorem lockagelaw16_KeySame.walk (P : lockagelaw16_KeySame.Pure) (a0 : Option Addr) (len0 cap0 : Nat) (z0 : List Int) (a1 : Option Addr) (len1 cap1 : Nat) (z1 : List Int) (a2 : Int) (w : World) (w0 : (a0 = none ∧ len0 = 0 ∧ cap0 = 0 ∧ z0 = []) ∨ ∃ x, a0 = some x ∧ len0 ≤ cap0 ∧ cap0 ≤ maxLen ∧ z0.length = cap0 ∧ (∀ i, i < z0.length → w.cell? (x.add i) = some (.int .u8 (z0.getD i 0))) ∧ ∀ n ∈ z0, (Lit.int .u8 n).wf = true) (y0 : len0 * 1 ≤ 140737488351232) (w1 : (a1 = none ∧ len1 = 0 ∧ cap1 = 0 ∧ z1 = []) ∨ ∃ x, a1 = some x ∧ len1 ≤ cap1 ∧ cap1 ≤ maxLen ∧ z1.length = cap1 ∧ (∀ i, i < z1.length → w.cell? (x.add i) = some (.int .u8 (z1.getD i 0))) ∧ ∀ n ∈ z1, (Lit.int .u8 n).wf = true) (y1 : len1 * 1 ≤ 140737488351232) (w2 : (Lit.int .u8 a2).wf = true) :
  Calls Tryz.prog 8 #[.slice a0 len0 cap0, .slice a1 len1 cap1, .int .u8 a2] w fun e w' => e = .returned (.bool true) ∧ Below w.heap.size w w' := by
 obtain ⟨l0, rfl, hr0, hm0, hw0, hc0⟩ := ReadsInt.ofRowC w0
 obtain ⟨l1, rfl, hr1, hm1, hw1, hc1⟩ := ReadsInt.ofRowC w1
 obtain ⟨k, h⟩ := P l0 l1 a2 hm0 y0 hw0 hm1 y1 hw1 w2
 refine (lockagelaw16_KeySame.calls k _ _ l0 _ _ l1 a2 true w (Kd.C_of_reads (d := (0 : Int)) (h1 := fun _ => rfl) hr0) hc0 (Kd.C_of_reads (d := (0 : Int)) (h1 := fun _ => rfl) hr1) hc1 h).mono ?_
 rintro e w' ⟨rfl, hd⟩
 exact ⟨rfl, hd⟩

end Go.Proofs.YthmallhjbhphgaaGreatDoor.P
