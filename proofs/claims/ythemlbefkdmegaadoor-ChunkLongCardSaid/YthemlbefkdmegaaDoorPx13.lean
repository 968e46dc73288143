/- Printed by a program of the session out of the translation: plain Lean functions, each with the contract that the Go function computes it. -/
import Derived.Test.YthemlbefkdmegaaDoorPx0
import Derived.Test.YthemlbefkdmegaaDoorPx1
import Derived.Test.YthemlbefkdmegaaDoorPx3
import Derived.Test.YthemlbefkdmegaaDoorPx11
import Derived.Test.YthemlbefkdmegaaDoorPx10
import Derived.Test.YthemlbefkdmegaaDoorHZD
namespace Go.Proofs.YthemlbefkdmegaaDoor.P
open Go.RowKit Go.Proofs.YthemlbefkdmegaaDoorW.PrintWords Go.Proofs.YthemlbefkdmegaaDoorW.PrintLast Go.Proofs.YthemlbefkdmegaaDoorW.PrintMore
attribute [local go_sem] max2_int min2_int max_two min_two max_three min_three max_four min_four   -- for this text's walks alone
set_option linter.unusedVariables false
set_option linter.unusedSimpArgs false

/-! ### lockagelaw08_ChunkLong: function 6 -/
mutual
def lockagelaw08_ChunkLong.j1 : Nat → ByteArray → Int → Int → ByteArray → Int → Option (Bool)
  | 0, _, _, _, _, _ => none
  | k + 1, x7, x234000, x234001, x234002, x234003 => (lockagelaw08_awake.f k).bind fun t238 => (if t238 = true then ((lockagelaw08_same.f k x234000 x234001 x234002 x234003 x7).bind fun t239 => (some t239)) else (none))
def lockagelaw08_ChunkLong.l0 : Nat → Int → ByteArray → Int → Int → Int → ByteArray → Int → Option (Bool)
  | 0, _, _, _, _, _, _, _ => none
  | k + 1, x0, x7, x9, x234000, x234001, x234002, x234003 => if x9 < (wrap64 (190 + (Int.tmod (wrap64 (x0)) 20))) then (if x7.size + 1 ≤ 9223372036854775807 then (lockagelaw08_ChunkLong.l0 k x0 (x7 ++ (⟨#[120]⟩ : ByteArray)) (wrap64 (x9 + 1)) x234000 x234001 x234002 x234003) else (none)) else (if x7.size + 2 ≤ 9223372036854775807 then (lockagelaw08_ChunkLong.j1 k (x7 ++ (⟨#[13, 10]⟩ : ByteArray)) x234000 x234001 x234002 x234003) else (none))
end
def lockagelaw08_ChunkLong.f (k : Nat) (a0 : Int) (a1 : Int) (a2 : Int) : Option (Bool) := (some (([0, 2, 3] : List Int) : List Int)).bind fun y229 => (if 0 ≤ (Int.tmod (wrap64 (a2)) 3) then (if (Int.tmod (wrap64 (a2)) 3) < (y229.length : Int) then (if (Int.tmod a1 3) = 0 then (lockagelaw08_ChunkLong.l0 k a0 (⟨#[49, 59]⟩ : ByteArray) 0 (rd y229 (Int.tmod (wrap64 (a2)) 3)) 0 (⟨#[]⟩ : ByteArray) 0) else (if (Int.tmod a1 3) = 1 then ((some (([(⟨#[97]⟩ : ByteArray), (⟨#[98]⟩ : ByteArray), (⟨#[57]⟩ : ByteArray), (⟨#[49]⟩ : ByteArray), (⟨#[48]⟩ : ByteArray)] : List ByteArray) : List ByteArray)).bind fun y234 => (if 0 ≤ (Int.tmod (wrap64 (a0)) 5) then (if (Int.tmod (wrap64 (a0)) 5) < (y234.length : Int) then (if 15 + (rdOf ByteArray.empty y234 (Int.tmod (wrap64 (a0)) 5)).size ≤ 9223372036854775807 then (if ((⟨#[97, 13, 10, 48, 49, 50, 51, 52, 53, 54, 55, 56, 57, 13, 10]⟩ : ByteArray) ++ (rdOf ByteArray.empty y234 (Int.tmod (wrap64 (a0)) 5))).size + 2 ≤ 9223372036854775807 then (lockagelaw08_ChunkLong.j1 k (((⟨#[97, 13, 10, 48, 49, 50, 51, 52, 53, 54, 55, 56, 57, 13, 10]⟩ : ByteArray) ++ (rdOf ByteArray.empty y234 (Int.tmod (wrap64 (a0)) 5))) ++ (⟨#[13, 10]⟩ : ByteArray)) 0 0 (⟨#[]⟩ : ByteArray) 3980) else (none)) else (none)) else (none)) else (none))) else (lockagelaw08_ChunkLong.j1 k (⟨#[48, 48, 13, 10, 13, 10]⟩ : ByteArray) (rd y229 (Int.tmod (wrap64 (a2)) 3)) 0 (⟨#[]⟩ : ByteArray) 4000))) else (none)) else (none))
theorem lockagelaw08_ChunkLong.mono_l : ∀ k, (∀ y0 y1 y2 y3 y4, LeO (lockagelaw08_ChunkLong.j1 k y0 y1 y2 y3 y4) (lockagelaw08_ChunkLong.j1 (k + 1) y0 y1 y2 y3 y4)) ∧ (∀ y0 y1 y2 y3 y4 y5 y6, LeO (lockagelaw08_ChunkLong.l0 k y0 y1 y2 y3 y4 y5 y6) (lockagelaw08_ChunkLong.l0 (k + 1) y0 y1 y2 y3 y4 y5 y6))
  | 0 => ⟨fun _ _ _ _ _ r h => by simp [lockagelaw08_ChunkLong.j1] at h, fun _ _ _ _ _ _ _ r h => by simp [lockagelaw08_ChunkLong.l0] at h⟩
  | k + 1 => by
    obtain ⟨ih0, ih1⟩ := lockagelaw08_ChunkLong.mono_l k
    refine ⟨?_, ?_⟩
    · intro y0 y1 y2 y3 y4
      unfold lockagelaw08_ChunkLong.j1
      repeat' first
      | (with_reducible exact ih0 _ _ _ _ _)
      | (with_reducible exact ih1 _ _ _ _ _ _ _)
      | (with_reducible exact lockagelaw08_awake.mono _)
      | (with_reducible exact lockagelaw08_same.mono _ _ _ _ _ _)
      | (with_reducible exact LeO.refl _)
      | (with_reducible exact LeO.none _)
      | (with_reducible refine LeO.ite ?_ ?_)
      | (with_reducible refine LeO.bind ?_ (fun _ => ?_))
      | exact ih0 _ _ _ _ _
      | exact ih1 _ _ _ _ _ _ _
      | exact lockagelaw08_awake.mono _
      | exact lockagelaw08_same.mono _ _ _ _ _ _
      | exact LeO.none _
      | refine LeO.ite ?_ ?_
      | refine LeO.bind ?_ (fun _ => ?_)
    · intro y0 y1 y2 y3 y4 y5 y6
      unfold lockagelaw08_ChunkLong.l0
      repeat' first
      | (with_reducible exact ih0 _ _ _ _ _)
      | (with_reducible exact ih1 _ _ _ _ _ _ _)
      | (with_reducible exact lockagelaw08_awake.mono _)
      | (with_reducible exact lockagelaw08_same.mono _ _ _ _ _ _)
      | (with_reducible exact LeO.refl _)
      | (with_reducible exact LeO.none _)
      | (with_reducible refine LeO.ite ?_ ?_)
      | (with_reducible refine LeO.bind ?_ (fun _ => ?_))
      | exact ih0 _ _ _ _ _
      | exact ih1 _ _ _ _ _ _ _
      | exact lockagelaw08_awake.mono _
      | exact lockagelaw08_same.mono _ _ _ _ _ _
      | exact LeO.none _
      | refine LeO.ite ?_ ?_
      | refine LeO.bind ?_ (fun _ => ?_)
theorem lockagelaw08_ChunkLong.mono : ∀ a0 a1 a2 k, LeO (lockagelaw08_ChunkLong.f k a0 a1 a2) (lockagelaw08_ChunkLong.f (k + 1) a0 a1 a2) := by
  intro a0 a1 a2 k
  obtain ⟨ih0, ih1⟩ := lockagelaw08_ChunkLong.mono_l k
  unfold lockagelaw08_ChunkLong.f
  repeat' first
      | (with_reducible exact ih0 _ _ _ _ _)
      | (with_reducible exact ih1 _ _ _ _ _ _ _)
      | (with_reducible exact lockagelaw08_awake.mono _)
      | (with_reducible exact lockagelaw08_same.mono _ _ _ _ _ _)
      | (with_reducible exact LeO.refl _)
      | (with_reducible exact LeO.none _)
      | (with_reducible refine LeO.ite ?_ ?_)
      | (with_reducible refine LeO.bind ?_ (fun _ => ?_))
      | exact ih0 _ _ _ _ _
      | exact ih1 _ _ _ _ _ _ _
      | exact lockagelaw08_awake.mono _
      | exact lockagelaw08_same.mono _ _ _ _ _ _
      | exact LeO.none _
      | refine LeO.ite ?_ ?_
      | refine LeO.bind ?_ (fun _ => ?_)
set_option maxHeartbeats 8000000 in
set_option maxRecDepth 100000 in
theorem lockagelaw08_ChunkLong.calls (k : Nat) (a0 : Int) (a1 : Int) (a2 : Int) (r : Bool) (w : World) (hG_ : H.GlobOk w) (h : lockagelaw08_ChunkLong.f k a0 a1 a2 = some r) :
    Calls Tryd.prog 6 #[.int .u8 a0, .int .u8 a1, .int .u8 a2] w fun e w' => e = .returned (.bool r) ∧ Below w.heap.size w w' := by
  have HG_ := Aside0.mk hG_
  clear hG_
  have hu23 := Tryd.underlying23
  have HB := Aside0.mk (Below.refl w.heap.size w)
  have H : ((some (([0, 2, 3] : List Int) : List Int)).bind fun y229 => (if 0 ≤ (Int.tmod (wrap64 (a2)) 3) then (if (Int.tmod (wrap64 (a2)) 3) < (y229.length : Int) then (if (Int.tmod a1 3) = 0 then (lockagelaw08_ChunkLong.l0 k a0 (⟨#[49, 59]⟩ : ByteArray) 0 (rd y229 (Int.tmod (wrap64 (a2)) 3)) 0 (⟨#[]⟩ : ByteArray) 0) else (if (Int.tmod a1 3) = 1 then ((some (([(⟨#[97]⟩ : ByteArray), (⟨#[98]⟩ : ByteArray), (⟨#[57]⟩ : ByteArray), (⟨#[49]⟩ : ByteArray), (⟨#[48]⟩ : ByteArray)] : List ByteArray) : List ByteArray)).bind fun y234 => (if 0 ≤ (Int.tmod (wrap64 (a0)) 5) then (if (Int.tmod (wrap64 (a0)) 5) < (y234.length : Int) then (if 15 + (rdOf ByteArray.empty y234 (Int.tmod (wrap64 (a0)) 5)).size ≤ 9223372036854775807 then (if ((⟨#[97, 13, 10, 48, 49, 50, 51, 52, 53, 54, 55, 56, 57, 13, 10]⟩ : ByteArray) ++ (rdOf ByteArray.empty y234 (Int.tmod (wrap64 (a0)) 5))).size + 2 ≤ 9223372036854775807 then (lockagelaw08_ChunkLong.j1 k (((⟨#[97, 13, 10, 48, 49, 50, 51, 52, 53, 54, 55, 56, 57, 13, 10]⟩ : ByteArray) ++ (rdOf ByteArray.empty y234 (Int.tmod (wrap64 (a0)) 5))) ++ (⟨#[13, 10]⟩ : ByteArray)) 0 0 (⟨#[]⟩ : ByteArray) 3980) else (none)) else (none)) else (none)) else (none))) else (lockagelaw08_ChunkLong.j1 k (⟨#[48, 48, 13, 10, 13, 10]⟩ : ByteArray) (rd y229 (Int.tmod (wrap64 (a2)) 3)) 0 (⟨#[]⟩ : ByteArray) 4000))) else (none)) else (none))) = some r := h
  clear h
  obtain ⟨y229, hy229⟩ : ∃ y_ : List Int, y_ = (([0, 2, 3] : List Int)) := ⟨_, rfl⟩
  replace H : (if 0 ≤ (Int.tmod (wrap64 (a2)) 3) then (if (Int.tmod (wrap64 (a2)) 3) < (y229.length : Int) then (if (Int.tmod a1 3) = 0 then (lockagelaw08_ChunkLong.l0 k a0 (⟨#[49, 59]⟩ : ByteArray) 0 (rd y229 (Int.tmod (wrap64 (a2)) 3)) 0 (⟨#[]⟩ : ByteArray) 0) else (if (Int.tmod a1 3) = 1 then ((some (([(⟨#[97]⟩ : ByteArray), (⟨#[98]⟩ : ByteArray), (⟨#[57]⟩ : ByteArray), (⟨#[49]⟩ : ByteArray), (⟨#[48]⟩ : ByteArray)] : List ByteArray) : List ByteArray)).bind fun y234 => (if 0 ≤ (Int.tmod (wrap64 (a0)) 5) then (if (Int.tmod (wrap64 (a0)) 5) < (y234.length : Int) then (if 15 + (rdOf ByteArray.empty y234 (Int.tmod (wrap64 (a0)) 5)).size ≤ 9223372036854775807 then (if ((⟨#[97, 13, 10, 48, 49, 50, 51, 52, 53, 54, 55, 56, 57, 13, 10]⟩ : ByteArray) ++ (rdOf ByteArray.empty y234 (Int.tmod (wrap64 (a0)) 5))).size + 2 ≤ 9223372036854775807 then (lockagelaw08_ChunkLong.j1 k (((⟨#[97, 13, 10, 48, 49, 50, 51, 52, 53, 54, 55, 56, 57, 13, 10]⟩ : ByteArray) ++ (rdOf ByteArray.empty y234 (Int.tmod (wrap64 (a0)) 5))) ++ (⟨#[13, 10]⟩ : ByteArray)) 0 0 (⟨#[]⟩ : ByteArray) 3980) else (none)) else (none)) else (none)) else (none))) else (lockagelaw08_ChunkLong.j1 k (⟨#[48, 48, 13, 10, 13, 10]⟩ : ByteArray) (rd y229 (Int.tmod (wrap64 (a2)) 3)) 0 (⟨#[]⟩ : ByteArray) 4000))) else (none)) else (none)) = some r := by first | (rw [hy229]; with_reducible exact H) | (have H2_ := (Option.bind_some _ _).symm.trans H; rw [hy229]; with_reducible exact H2_) | (have H2_ := (Option.bind_some _ _).symm.trans H; with_reducible exact H2_) | with_reducible exact H | (rw [hy229]; exact H) | exact H
  have Ny229 := Aside0.mk hy229
  clear hy229
  obtain ⟨ji4, hji4⟩ : ∃ j_ : Int, (Int.tmod (wrap64 (a2)) 3) = j_ := ⟨_, rfl⟩
  replace H : (if 0 ≤ (ji4) then (if (ji4) < (y229.length : Int) then (if (Int.tmod a1 3) = 0 then (lockagelaw08_ChunkLong.l0 k a0 (⟨#[49, 59]⟩ : ByteArray) 0 (rd y229 (ji4)) 0 (⟨#[]⟩ : ByteArray) 0) else (if (Int.tmod a1 3) = 1 then ((some (([(⟨#[97]⟩ : ByteArray), (⟨#[98]⟩ : ByteArray), (⟨#[57]⟩ : ByteArray), (⟨#[49]⟩ : ByteArray), (⟨#[48]⟩ : ByteArray)] : List ByteArray) : List ByteArray)).bind fun y234 => (if 0 ≤ (Int.tmod (wrap64 (a0)) 5) then (if (Int.tmod (wrap64 (a0)) 5) < (y234.length : Int) then (if 15 + (rdOf ByteArray.empty y234 (Int.tmod (wrap64 (a0)) 5)).size ≤ 9223372036854775807 then (if ((⟨#[97, 13, 10, 48, 49, 50, 51, 52, 53, 54, 55, 56, 57, 13, 10]⟩ : ByteArray) ++ (rdOf ByteArray.empty y234 (Int.tmod (wrap64 (a0)) 5))).size + 2 ≤ 9223372036854775807 then (lockagelaw08_ChunkLong.j1 k (((⟨#[97, 13, 10, 48, 49, 50, 51, 52, 53, 54, 55, 56, 57, 13, 10]⟩ : ByteArray) ++ (rdOf ByteArray.empty y234 (Int.tmod (wrap64 (a0)) 5))) ++ (⟨#[13, 10]⟩ : ByteArray)) 0 0 (⟨#[]⟩ : ByteArray) 3980) else (none)) else (none)) else (none)) else (none))) else (lockagelaw08_ChunkLong.j1 k (⟨#[48, 48, 13, 10, 13, 10]⟩ : ByteArray) (rd y229 (ji4)) 0 (⟨#[]⟩ : ByteArray) 4000))) else (none)) else (none)) = some r := by first | (rw [hji4] at H; exact H) | (simp only [hji4] at H ⊢; exact H)
  by_cases c5 : 0 ≤ (ji4)
  · rw [if_pos c5] at H
    have c5b0 : decide (0 ≤ (ji4)) = true := decide_eq_true c5
    clear c5
    by_cases c6 : (ji4) < (y229.length : Int)
    · rw [if_pos c6] at H
      have c6b0 : decide ((ji4) < (y229.length : Int)) = true := decide_eq_true c6
      clear c6
      have HC7 := Aside0.mk H
      clear H
      go_enter Tryd.func6, Tryd.ntmps6
      go_upto_block 0 with (first | ((with_reducible refine gate_dst (N := 10) rfl ?_); refine Kd.R_lit (Kd.int .i64) _ 3 ?hg (N := 10) ?hd (xs := ([0, 2, 3] : List Int)) (inner := [.int .i64 0, .int .i64 2, .int .i64 3]) (ok := fun _ => True) (okp := fun _ => True) ?hr ?hp (fun _ hk => hk) trivial (Below.refl _ _) (Nat.le_refl _) (by simp) ?_; (case hd => rfl); (case hg => rfl); (case hr => first | (go_simp; done) | (go_simp; rfl)); (case hp => exact (Reps.one (show Kd.M (Kd.int .i64) _ _ _ 0 [.int .i64 0] from rfl) (Reps.one (show Kd.M (Kd.int .i64) _ _ _ 2 [.int .i64 2] from rfl) (Reps.one (show Kd.M (Kd.int .i64) _ _ _ 3 [.int .i64 3] from rfl) (Reps.none _ _))))); intro v230 w8 ho9 hb hg_ hnew_; clear hg_ hnew_; (first | rw [← Ny229.out] at ho9 | (simp only [Int.reduceToNat] at ho9; rw [← Ny229.out] at ho9)); have n0_ := Aside0.mk (Kd.R_lower ho9 (below_size (by repeat (first | (with_reducible first | exact HB.out | apply below_alloc | apply pw_below_drewN | apply below_drew1) | exact HB.out)))); have n1_ := Aside0.mk (below_step (by repeat (first | (with_reducible first | exact HB.out | apply below_alloc | apply pw_below_drewN | apply below_drew1) | exact HB.out)) hb); clear HB; have HO231 := n0_; have HB := n1_; clear n0_ n1_; clear hb ho9; obtain ⟨Ao10, co10, eo10⟩ := Kd.R_slice HO231.out; subst eo10; have p232 : 0 ≤ ((ji4) : Int) := of_decide_eq_true (by first | (with_reducible assumption) | assumption); have q232 : (ji4) < (y229.length : Int) := of_decide_eq_true (by first | (with_reducible assumption) | assumption); obtain ⟨ad232, e232, hx232_0⟩ := Kd.at_int (Kd.R_reads' HO231.out).2.2 (ji4) p232 q232; cases e232; replace p232 := eq_true p232; replace q232 := eq_true q232) | ((with_reducible refine gate_dst (N := 8) rfl ?_); refine box_event ?hg (N := 8) ?hd (cs := #[.int .i64 0, .int .i64 0, .string (⟨#[]⟩ : ByteArray), .int .i64 0]) (t := 23) ?hr ?_; (case hd => rfl); (case hg => rfl); (case hr => first | (go_simp; done) | (go_simp; rfl)); intro gb233 hg w11 hbox hb; have n0_ := Aside0.mk (Kd.R_below (by (with_reducible repeat (first | apply Kd.R_alloc | apply Kd.R_drewN | apply Kd.R_drew)); exact HO231.out) hb); have n1_ := Aside0.mk (below_step (by repeat (first | (with_reducible first | exact HB.out | apply below_alloc | apply pw_below_drewN | apply below_drew1) | exact HB.out)) hb); have n2_ := Aside0.mk (hbox); have n3_ := Aside0.mk ((by rw [hg]; exact (below_size (by repeat (first | (with_reducible first | exact HB.out | apply below_alloc | apply pw_below_drewN | apply below_drew1) | exact HB.out))) : w.heap.size ≤ gb233)); have n4_ := Aside0.mk ((by rw [hg]; exact (below_size (by repeat (first | (with_reducible first | exact HB.out | apply below_alloc | apply pw_below_drewN | apply below_drew1) | exact HB.out))) : w.heap.size ≤ gb233)); clear HO231; clear HB; have HO231 := n0_; have HB := n1_; have BK233 := n2_; have GW233 := n3_; have GE233 := n4_; clear n0_ n1_ n2_ n3_ n4_; clear hb hbox hg; have hcz12_0 : w11.cell? ⟨gb233, 0, none⟩ = some (.int .i64 0) := (blk_cell BK233.out 0).trans rfl; have hcz12_1 : w11.cell? ⟨gb233, 1, none⟩ = some (.int .i64 0) := (blk_cell BK233.out 1).trans rfl; have hcz12_2 : w11.cell? ⟨gb233, 2, none⟩ = some (.string (⟨#[]⟩ : ByteArray)) := (blk_cell BK233.out 2).trans rfl; have hcz12_3 : w11.cell? ⟨gb233, 3, none⟩ = some (.int .i64 0) := (blk_cell BK233.out 3).trans rfl; have hfz12_0 := blk_frozen BK233.out 0; have hfz12_1 := blk_frozen BK233.out 1; have hfz12_2 := blk_frozen BK233.out 2; have hfz12_3 := blk_frozen BK233.out 3))
      (try simp only [Act.put, List.setIfInBounds_toArray, List.set_cons_zero, List.set_cons_succ])
      go_cut [7] (fun v7 wc => ∃ (kq : Nat) (x7_6 : ByteArray) (x234000_6 : Int) (x234001_6 : Int) (x234002_6 : ByteArray) (x234003_6 : Int), v7 = .string x7_6 ∧ Aside0 (lockagelaw08_ChunkLong.j1 kq x7_6 x234000_6 x234001_6 x234002_6 x234003_6 = some r) ∧ Aside0 (kq ≤ k) ∧ Aside0 (wc.heap[gb233]? = some (.cells #[.int .i64 x234000_6, .int .i64 x234001_6, .string x234002_6, .int .i64 x234003_6] 23 (0, 0))) ∧ Aside0 (Below w.heap.size w wc))
      case first =>
        have H := HC7.out
        clear HC7
        by_cases c13 : (Int.tmod a1 3) = 0
        · rw [if_pos c13] at H
          have c13b0 : ((Int.tmod a1 3) == 0) = true := beq_iff_eq.mpr c13
          have c13b1 : ((Int.tmod a1 3) != 0) = false := bne_eq_false_iff_eq.mpr c13
          clear c13
          (first | rw [c13b0] | (simp only [i64_w, i32_w]; rw [c13b0]) | skip)
          have H' := Aside0.mk H
          clear H
          go_wp2
          go_loopg [7, 9] k (fun kq v7 v9 w' => ∃ (x7_1 : ByteArray) (x9_1 : Int), v7 = .string x7_1 ∧ v9 = .int .i64 x9_1 ∧ Aside0 (lockagelaw08_ChunkLong.l0 kq a0 x7_1 x9_1 (rd y229 (ji4)) 0 (⟨#[]⟩ : ByteArray) 0 = some r) ∧ Aside0 (kq ≤ k) ∧ Aside0 (w'.heap[gb233]? = some (.cells #[.int .i64 (rd y229 (ji4)), .int .i64 0, .string (⟨#[]⟩ : ByteArray), .int .i64 0] 23 (0, 0))) ∧ Aside0 (Below w.heap.size w w'))
          case atStart => exact ⟨((⟨#[49, 59]⟩ : ByteArray)), (0), (by first | rfl | (simp; done) | (simp [*]; done)), (by first | rfl | (simp; done) | (simp [*]; done)), H', ⟨Nat.le_refl _⟩, ⟨by (with_reducible repeat (first | refine blk_drewN ?_ _ | refine blk_drew ?_ | refine blk_alloc ?_ _)); refine blk_put (cs := #[.int .i64 (rd y229 (ji4)), .int .i64 0, .string (⟨#[]⟩ : ByteArray), .int .i64 0]) ?_ 3 _ rfl; (with_reducible repeat (first | refine blk_drewN ?_ _ | refine blk_drew ?_ | refine blk_alloc ?_ _)); refine blk_put (cs := #[.int .i64 (rd y229 (ji4)), .int .i64 0, .string (⟨#[]⟩ : ByteArray), .int .i64 0]) ?_ 2 _ rfl; (with_reducible repeat (first | refine blk_drewN ?_ _ | refine blk_drew ?_ | refine blk_alloc ?_ _)); refine blk_put (cs := #[.int .i64 (rd y229 (ji4)), .int .i64 0, .string (⟨#[]⟩ : ByteArray), .int .i64 0]) ?_ 1 _ rfl; (with_reducible repeat (first | refine blk_drewN ?_ _ | refine blk_drew ?_ | refine blk_alloc ?_ _)); refine blk_put (cs := #[.int .i64 0, .int .i64 0, .string (⟨#[]⟩ : ByteArray), .int .i64 0]) ?_ 0 _ rfl; (with_reducible repeat (first | refine blk_drewN ?_ _ | refine blk_drew ?_ | refine blk_alloc ?_ _)); exact BK233.out⟩, ⟨by repeat (first | (with_reducible first | exact HB.out | apply below_alloc | apply pw_below_drewN | apply below_drew1 | refine below_set ?_ GE233.out) | exact HB.out)⟩⟩
          case round =>
            clear H'
            try clear c1
            try clear p2
            try clear q2
            try clear hx2
            try clear c5
            try clear c5b0
            try clear c6
            try clear c6b0
            try clear p6
            try clear c13
            try clear c13b0
            try clear c13b1
            try clear hcz12_0
            try clear hcz12_1
            try clear hcz12_2
            try clear hcz12_3
            try clear hfz12_0
            try clear hfz12_1
            try clear hfz12_2
            try clear hfz12_3
            try clear hx232_0
            try clear p232
            try clear q232
            obtain ⟨x7_1, x9_1, rfl, rfl, HA, HK1, BK233, HB⟩ := hrel
            cases gk with
            | zero => exact absurd HA.out (by simp [lockagelaw08_ChunkLong.l0])
            | succ k1 =>
              have H := HA.out
              clear HA
              simp only [lockagelaw08_ChunkLong.l0] at H
              by_cases c14 : x9_1 < (wrap64 (190 + (Int.tmod (wrap64 (a0)) 20)))
              · rw [if_pos c14] at H
                have c14b0 : decide (x9_1 < (wrap64 (190 + (Int.tmod (wrap64 (a0)) 20)))) = true := decide_eq_true c14
                clear c14
                by_cases c15 : x7_1.size + 1 ≤ 9223372036854775807
                · rw [if_pos c15] at H
                  have c15b0 := eq_true c15
                  have c15b1 : decide (x7_1.size + 1 ≤ 9223372036854775807) = true := decide_eq_true c15
                  try have c15b2 : (9223372036854775807 < x7_1.size + 1) = False := eq_false (Nat.not_lt.2 c15)
                  have H' := Aside0.mk H
                  clear H
                  go_wp2
                  go_roundg k1
                  case measure => have := HK1.out; omega
                  case rel => exact ⟨(x7_1 ++ (⟨#[120]⟩ : ByteArray)), (wrap64 (x9_1 + 1)), (by first | rfl | (simp; done) | (simp [*]; done)), (by first | rfl | (simp; done) | (simp [*]; done)), H', ⟨by have := HK1.out; omega⟩, ⟨by (with_reducible repeat (first | refine blk_drewN ?_ _ | refine blk_drew ?_ | refine blk_alloc ?_ _)); exact BK233.out⟩, ⟨by repeat (first | (with_reducible first | exact HB.out | apply below_alloc | apply pw_below_drewN | apply below_drew1 | refine below_set ?_ GE233.out) | exact HB.out)⟩⟩
                · rw [if_neg c15] at H
                  exact absurd H (by simp)
              · rw [if_neg c14] at H
                have c14b0 : decide (x9_1 < (wrap64 (190 + (Int.tmod (wrap64 (a0)) 20)))) = false := decide_eq_false c14
                clear c14
                by_cases c16 : x7_1.size + 2 ≤ 9223372036854775807
                · rw [if_pos c16] at H
                  have c16b0 := eq_true c16
                  have c16b1 : decide (x7_1.size + 2 ≤ 9223372036854775807) = true := decide_eq_true c16
                  try have c16b2 : (9223372036854775807 < x7_1.size + 2) = False := eq_false (Nat.not_lt.2 c16)
                  have H' := Aside0.mk H
                  clear H
                  go_wp2
                  go_meet
                  case rel => exact ⟨_, (x7_1 ++ (⟨#[13, 10]⟩ : ByteArray)), ((rd y229 (ji4))), (0), ((⟨#[]⟩ : ByteArray)), (0), (by first | rfl | (simp; done) | (simp [*]; done)), H', ⟨by have := HK1.out; first | omega | exact Nat.le_refl _⟩, ⟨by (with_reducible repeat (first | refine blk_drewN ?_ _ | refine blk_drew ?_ | refine blk_alloc ?_ _)); exact BK233.out⟩, ⟨by repeat (first | (with_reducible first | exact HB.out | apply below_alloc | apply pw_below_drewN | apply below_drew1 | refine below_set ?_ GE233.out) | exact HB.out)⟩⟩
                · rw [if_neg c16] at H
                  exact absurd H (by simp)
        · rw [if_neg c13] at H
          have c13b0 : ((Int.tmod a1 3) == 0) = false := beq_eq_false_iff_ne.mpr c13
          have c13b1 : ((Int.tmod a1 3) != 0) = true := bne_iff_ne.mpr c13
          (first | rw [c13b0] | (simp only [i64_w, i32_w]; rw [c13b0]) | skip)
          by_cases c17 : (Int.tmod a1 3) = 1
          · rw [if_pos c17] at H
            have c17b0 : ((Int.tmod a1 3) == 1) = true := beq_iff_eq.mpr c17
            have c17b1 : ((Int.tmod a1 3) != 1) = false := bne_eq_false_iff_eq.mpr c17
            clear c17
            obtain ⟨y234, hy234⟩ : ∃ y_ : List ByteArray, y_ = (([(⟨#[97]⟩ : ByteArray), (⟨#[98]⟩ : ByteArray), (⟨#[57]⟩ : ByteArray), (⟨#[49]⟩ : ByteArray), (⟨#[48]⟩ : ByteArray)] : List ByteArray)) := ⟨_, rfl⟩
            replace H : (if 0 ≤ (Int.tmod (wrap64 (a0)) 5) then (if (Int.tmod (wrap64 (a0)) 5) < (y234.length : Int) then (if 15 + (rdOf ByteArray.empty y234 (Int.tmod (wrap64 (a0)) 5)).size ≤ 9223372036854775807 then (if ((⟨#[97, 13, 10, 48, 49, 50, 51, 52, 53, 54, 55, 56, 57, 13, 10]⟩ : ByteArray) ++ (rdOf ByteArray.empty y234 (Int.tmod (wrap64 (a0)) 5))).size + 2 ≤ 9223372036854775807 then (lockagelaw08_ChunkLong.j1 k (((⟨#[97, 13, 10, 48, 49, 50, 51, 52, 53, 54, 55, 56, 57, 13, 10]⟩ : ByteArray) ++ (rdOf ByteArray.empty y234 (Int.tmod (wrap64 (a0)) 5))) ++ (⟨#[13, 10]⟩ : ByteArray)) 0 0 (⟨#[]⟩ : ByteArray) 3980) else (none)) else (none)) else (none)) else (none)) = some r := by first | (rw [hy234]; with_reducible exact H) | (have H2_ := (Option.bind_some _ _).symm.trans H; rw [hy234]; with_reducible exact H2_) | (have H2_ := (Option.bind_some _ _).symm.trans H; with_reducible exact H2_) | with_reducible exact H | (rw [hy234]; exact H) | exact H
            have Ny234 := Aside0.mk hy234
            clear hy234
            obtain ⟨ji18, hji18⟩ : ∃ j_ : Int, (Int.tmod (wrap64 (a0)) 5) = j_ := ⟨_, rfl⟩
            replace H : (if 0 ≤ (ji18) then (if (ji18) < (y234.length : Int) then (if 15 + (rdOf ByteArray.empty y234 (ji18)).size ≤ 9223372036854775807 then (if ((⟨#[97, 13, 10, 48, 49, 50, 51, 52, 53, 54, 55, 56, 57, 13, 10]⟩ : ByteArray) ++ (rdOf ByteArray.empty y234 (ji18))).size + 2 ≤ 9223372036854775807 then (lockagelaw08_ChunkLong.j1 k (((⟨#[97, 13, 10, 48, 49, 50, 51, 52, 53, 54, 55, 56, 57, 13, 10]⟩ : ByteArray) ++ (rdOf ByteArray.empty y234 (ji18))) ++ (⟨#[13, 10]⟩ : ByteArray)) 0 0 (⟨#[]⟩ : ByteArray) 3980) else (none)) else (none)) else (none)) else (none)) = some r := by first | (rw [hji18] at H; exact H) | (simp only [hji18] at H ⊢; exact H)
            by_cases c19 : 0 ≤ (ji18)
            · rw [if_pos c19] at H
              have c19b0 : decide (0 ≤ (ji18)) = true := decide_eq_true c19
              clear c19
              by_cases c20 : (ji18) < (y234.length : Int)
              · rw [if_pos c20] at H
                have c20b0 : decide ((ji18) < (y234.length : Int)) = true := decide_eq_true c20
                clear c20
                by_cases c21 : 15 + (rdOf ByteArray.empty y234 (ji18)).size ≤ 9223372036854775807
                · rw [if_pos c21] at H
                  have c21b0 := eq_true c21
                  have c21b1 : decide (15 + (rdOf ByteArray.empty y234 (ji18)).size ≤ 9223372036854775807) = true := decide_eq_true c21
                  try have c21b2 : (9223372036854775807 < 15 + (rdOf ByteArray.empty y234 (ji18)).size) = False := eq_false (Nat.not_lt.2 c21)
                  by_cases c22 : ((⟨#[97, 13, 10, 48, 49, 50, 51, 52, 53, 54, 55, 56, 57, 13, 10]⟩ : ByteArray) ++ (rdOf ByteArray.empty y234 (ji18))).size + 2 ≤ 9223372036854775807
                  · rw [if_pos c22] at H
                    have c22b0 := eq_true c22
                    have c22b1 : decide (((⟨#[97, 13, 10, 48, 49, 50, 51, 52, 53, 54, 55, 56, 57, 13, 10]⟩ : ByteArray) ++ (rdOf ByteArray.empty y234 (ji18))).size + 2 ≤ 9223372036854775807) = true := decide_eq_true c22
                    try have c22b2 : (9223372036854775807 < ((⟨#[97, 13, 10, 48, 49, 50, 51, 52, 53, 54, 55, 56, 57, 13, 10]⟩ : ByteArray) ++ (rdOf ByteArray.empty y234 (ji18))).size + 2) = False := eq_false (Nat.not_lt.2 c22)
                    try have c22b3 : (9223372036854775807 < 15 + (rdOf ByteArray.empty y234 (ji18)).size + 2) = False := eq_false (Nat.not_lt.2 (by have z_ := c22; rw [ByteArray.size_append] at z_; exact z_))
                    have H' := Aside0.mk H
                    clear H
                    have hcz23_0 : w11.cell? ⟨gb233, 0, none⟩ = some (.int .i64 0) := (blk_cell BK233.out 0).trans rfl
                    have hcz23_1 : w11.cell? ⟨gb233, 1, none⟩ = some (.int .i64 0) := (blk_cell BK233.out 1).trans rfl
                    have hcz23_2 : w11.cell? ⟨gb233, 2, none⟩ = some (.string (⟨#[]⟩ : ByteArray)) := (blk_cell BK233.out 2).trans rfl
                    have hcz23_3 : w11.cell? ⟨gb233, 3, none⟩ = some (.int .i64 0) := (blk_cell BK233.out 3).trans rfl
                    have hfz23_0 := blk_frozen BK233.out 0
                    have hfz23_1 := blk_frozen BK233.out 1
                    have hfz23_2 := blk_frozen BK233.out 2
                    have hfz23_3 := blk_frozen BK233.out 3
                    go_wp2_with (first | ((with_reducible refine gate_dst (N := 37) rfl ?_); refine Kd.R_lit Kd.string _ 9 ?hg (N := 37) ?hd (xs := ([(⟨#[97]⟩ : ByteArray), (⟨#[98]⟩ : ByteArray), (⟨#[57]⟩ : ByteArray), (⟨#[49]⟩ : ByteArray), (⟨#[48]⟩ : ByteArray)] : List ByteArray)) (inner := [.string (⟨#[97]⟩ : ByteArray), .string (⟨#[98]⟩ : ByteArray), .string (⟨#[57]⟩ : ByteArray), .string (⟨#[49]⟩ : ByteArray), .string (⟨#[48]⟩ : ByteArray)]) (ok := fun _ => True) (okp := fun _ => True) ?hr ?hp (fun _ hk => hk) trivial (Below.refl _ _) (Nat.le_refl _) (by simp) ?_; (case hd => rfl); (case hg => rfl); (case hr => first | (go_simp; done) | (go_simp; rfl)); (case hp => exact (Reps.one (show Kd.M Kd.string _ _ _ (⟨#[97]⟩ : ByteArray) [.string (⟨#[97]⟩ : ByteArray)] from rfl) (Reps.one (show Kd.M Kd.string _ _ _ (⟨#[98]⟩ : ByteArray) [.string (⟨#[98]⟩ : ByteArray)] from rfl) (Reps.one (show Kd.M Kd.string _ _ _ (⟨#[57]⟩ : ByteArray) [.string (⟨#[57]⟩ : ByteArray)] from rfl) (Reps.one (show Kd.M Kd.string _ _ _ (⟨#[49]⟩ : ByteArray) [.string (⟨#[49]⟩ : ByteArray)] from rfl) (Reps.one (show Kd.M Kd.string _ _ _ (⟨#[48]⟩ : ByteArray) [.string (⟨#[48]⟩ : ByteArray)] from rfl) (Reps.none _ _))))))); intro v235 w24 ho25 hb hg_ hnew_; clear hg_ hnew_; (first | rw [← Ny234.out] at ho25 | (simp only [Int.reduceToNat] at ho25; rw [← Ny234.out] at ho25)); have n0_ := Aside0.mk (Kd.R_below (by (with_reducible repeat (first | apply Kd.R_alloc | apply Kd.R_drewN | apply Kd.R_drew)); exact (Kd.R_mono (Kd.R_far (p := ⟨gb233, 3, none⟩) (Kd.R_far (p := ⟨gb233, 2, none⟩) (Kd.R_far (p := ⟨gb233, 1, none⟩) (Kd.R_far (p := ⟨gb233, 0, none⟩) (Kd.R_far (p := ⟨gb233, 3, none⟩) (Kd.R_far (p := ⟨gb233, 2, none⟩) (Kd.R_far (p := ⟨gb233, 1, none⟩) (Kd.R_far (p := ⟨gb233, 0, none⟩) (Kd.R_types HO231.out BK233.out (by decide)) (fun _ hk => hk.2) (.int .i64 (rd y229 (ji4)))) (fun _ hk => hk.2) (.int .i64 0)) (fun _ hk => hk.2) (.string (⟨#[]⟩ : ByteArray))) (fun _ hk => hk.2) (.int .i64 0)) (fun _ hk => hk.2) (.int .i64 0)) (fun _ hk => hk.2) (.int .i64 0)) (fun _ hk => hk.2) (.string (⟨#[]⟩ : ByteArray))) (fun _ hk => hk.2) (.int .i64 3980)) (fun _ h_ => h_.1))) hb); have n1_ := Aside0.mk (Kd.R_lower ho25 (below_size (by repeat (first | (with_reducible first | exact HB.out | apply below_alloc | apply pw_below_drewN | apply below_drew1 | refine below_set ?_ GE233.out) | exact HB.out)))); have n2_ := Aside0.mk (blk_below (g := gb233) (o := .cells #[.int .i64 0, .int .i64 0, .string (⟨#[]⟩ : ByteArray), .int .i64 3980] 23 (0, 0)) (by (with_reducible repeat (first | refine blk_drewN ?_ _ | refine blk_drew ?_ | refine blk_alloc ?_ _)); refine blk_put (cs := #[.int .i64 0, .int .i64 0, .string (⟨#[]⟩ : ByteArray), .int .i64 0]) ?_ 3 _ rfl; (with_reducible repeat (first | refine blk_drewN ?_ _ | refine blk_drew ?_ | refine blk_alloc ?_ _)); refine blk_put (cs := #[.int .i64 0, .int .i64 0, .string (⟨#[]⟩ : ByteArray), .int .i64 0]) ?_ 2 _ rfl; (with_reducible repeat (first | refine blk_drewN ?_ _ | refine blk_drew ?_ | refine blk_alloc ?_ _)); refine blk_put (cs := #[.int .i64 0, .int .i64 0, .string (⟨#[]⟩ : ByteArray), .int .i64 0]) ?_ 1 _ rfl; (with_reducible repeat (first | refine blk_drewN ?_ _ | refine blk_drew ?_ | refine blk_alloc ?_ _)); refine blk_put (cs := #[.int .i64 (rd y229 (ji4)), .int .i64 0, .string (⟨#[]⟩ : ByteArray), .int .i64 0]) ?_ 0 _ rfl; (with_reducible repeat (first | refine blk_drewN ?_ _ | refine blk_drew ?_ | refine blk_alloc ?_ _)); refine blk_put (cs := #[.int .i64 (rd y229 (ji4)), .int .i64 0, .string (⟨#[]⟩ : ByteArray), .int .i64 0]) ?_ 3 _ rfl; (with_reducible repeat (first | refine blk_drewN ?_ _ | refine blk_drew ?_ | refine blk_alloc ?_ _)); refine blk_put (cs := #[.int .i64 (rd y229 (ji4)), .int .i64 0, .string (⟨#[]⟩ : ByteArray), .int .i64 0]) ?_ 2 _ rfl; (with_reducible repeat (first | refine blk_drewN ?_ _ | refine blk_drew ?_ | refine blk_alloc ?_ _)); refine blk_put (cs := #[.int .i64 (rd y229 (ji4)), .int .i64 0, .string (⟨#[]⟩ : ByteArray), .int .i64 0]) ?_ 1 _ rfl; (with_reducible repeat (first | refine blk_drewN ?_ _ | refine blk_drew ?_ | refine blk_alloc ?_ _)); refine blk_put (cs := #[.int .i64 0, .int .i64 0, .string (⟨#[]⟩ : ByteArray), .int .i64 0]) ?_ 0 _ rfl; (with_reducible repeat (first | refine blk_drewN ?_ _ | refine blk_drew ?_ | refine blk_alloc ?_ _)); exact BK233.out) hb); have n3_ := Aside0.mk (below_step (by repeat (first | (with_reducible first | exact HB.out | apply below_alloc | apply pw_below_drewN | apply below_drew1 | refine below_set ?_ GE233.out) | exact HB.out)) hb); clear HO231; clear BK233; clear HB; have HO231 := n0_; have HO236 := n1_; have BK233 := n2_; have HB := n3_; clear n0_ n1_ n2_ n3_; clear hb ho25; obtain ⟨Ao26, co26, eo26⟩ := Kd.R_slice HO236.out; subst eo26; have p237 : 0 ≤ ((ji18) : Int) := of_decide_eq_true (by first | (with_reducible assumption) | assumption); have q237 : (ji18) < (y234.length : Int) := of_decide_eq_true (by first | (with_reducible assumption) | assumption); obtain ⟨ad237, e237, hx237_0⟩ := Kd.at_string (Kd.R_reads' HO236.out).2.2 (ji18) p237 q237; cases e237; replace p237 := eq_true p237; replace q237 := eq_true q237))
                    go_meet
                    case rel => exact ⟨_, (((⟨#[97, 13, 10, 48, 49, 50, 51, 52, 53, 54, 55, 56, 57, 13, 10]⟩ : ByteArray) ++ (rdOf ByteArray.empty y234 (ji18))) ++ (⟨#[13, 10]⟩ : ByteArray)), (0), (0), ((⟨#[]⟩ : ByteArray)), (3980), (by first | rfl | (simp; done) | (simp only [← hji18] <;> (first | rfl | simp)) | (simp [*]; done)), H', ⟨by first | omega | exact Nat.le_refl _⟩, ⟨by (with_reducible repeat (first | refine blk_drewN ?_ _ | refine blk_drew ?_ | refine blk_alloc ?_ _)); exact BK233.out⟩, ⟨by repeat (first | (with_reducible first | exact HB.out | apply below_alloc | apply pw_below_drewN | apply below_drew1 | refine below_set ?_ GE233.out) | exact HB.out)⟩⟩
                  · rw [if_neg c22] at H
                    exact absurd H (by simp)
                · rw [if_neg c21] at H
                  exact absurd H (by simp)
              · rw [if_neg c20] at H
                exact absurd H (by simp)
            · rw [if_neg c19] at H
              exact absurd H (by simp)
          · rw [if_neg c17] at H
            have c17b0 : ((Int.tmod a1 3) == 1) = false := beq_eq_false_iff_ne.mpr c17
            have c17b1 : ((Int.tmod a1 3) != 1) = true := bne_iff_ne.mpr c17
            have H' := Aside0.mk H
            clear H
            have hcz27_0 : w11.cell? ⟨gb233, 0, none⟩ = some (.int .i64 0) := (blk_cell BK233.out 0).trans rfl
            have hcz27_1 : w11.cell? ⟨gb233, 1, none⟩ = some (.int .i64 0) := (blk_cell BK233.out 1).trans rfl
            have hcz27_2 : w11.cell? ⟨gb233, 2, none⟩ = some (.string (⟨#[]⟩ : ByteArray)) := (blk_cell BK233.out 2).trans rfl
            have hcz27_3 : w11.cell? ⟨gb233, 3, none⟩ = some (.int .i64 0) := (blk_cell BK233.out 3).trans rfl
            have hfz27_0 := blk_frozen BK233.out 0
            have hfz27_1 := blk_frozen BK233.out 1
            have hfz27_2 := blk_frozen BK233.out 2
            have hfz27_3 := blk_frozen BK233.out 3
            go_wp2
            go_meet
            case rel => exact ⟨_, ((⟨#[48, 48, 13, 10, 13, 10]⟩ : ByteArray)), (rd y229 (ji4)), (0), ((⟨#[]⟩ : ByteArray)), (4000), (by first | rfl | (simp; done) | (simp [*]; done)), H', ⟨by first | omega | exact Nat.le_refl _⟩, ⟨by (with_reducible repeat (first | refine blk_drewN ?_ _ | refine blk_drew ?_ | refine blk_alloc ?_ _)); refine blk_put (cs := #[.int .i64 (rd y229 (ji4)), .int .i64 0, .string (⟨#[]⟩ : ByteArray), .int .i64 0]) ?_ 3 _ rfl; (with_reducible repeat (first | refine blk_drewN ?_ _ | refine blk_drew ?_ | refine blk_alloc ?_ _)); refine blk_put (cs := #[.int .i64 (rd y229 (ji4)), .int .i64 0, .string (⟨#[]⟩ : ByteArray), .int .i64 0]) ?_ 3 _ rfl; (with_reducible repeat (first | refine blk_drewN ?_ _ | refine blk_drew ?_ | refine blk_alloc ?_ _)); refine blk_put (cs := #[.int .i64 (rd y229 (ji4)), .int .i64 0, .string (⟨#[]⟩ : ByteArray), .int .i64 0]) ?_ 2 _ rfl; (with_reducible repeat (first | refine blk_drewN ?_ _ | refine blk_drew ?_ | refine blk_alloc ?_ _)); refine blk_put (cs := #[.int .i64 (rd y229 (ji4)), .int .i64 0, .string (⟨#[]⟩ : ByteArray), .int .i64 0]) ?_ 1 _ rfl; (with_reducible repeat (first | refine blk_drewN ?_ _ | refine blk_drew ?_ | refine blk_alloc ?_ _)); refine blk_put (cs := #[.int .i64 0, .int .i64 0, .string (⟨#[]⟩ : ByteArray), .int .i64 0]) ?_ 0 _ rfl; (with_reducible repeat (first | refine blk_drewN ?_ _ | refine blk_drew ?_ | refine blk_alloc ?_ _)); exact BK233.out⟩, ⟨by repeat (first | (with_reducible first | exact HB.out | apply below_alloc | apply pw_below_drewN | apply below_drew1 | refine below_set ?_ GE233.out) | exact HB.out)⟩⟩
      case rest =>
        clear HC7
        try clear c1
        try clear c2
        try clear p2
        try clear q2
        try clear hx2
        try clear c5
        try clear c5b0
        try clear c6
        try clear c6b0
        try clear p6
        try clear c13
        try clear c13b0
        try clear c13b1
        try clear c14
        try clear c14b0
        try clear c15
        try clear c15b0
        try clear c15b1
        try clear c15b2
        try clear c16
        try clear c16b0
        try clear c16b1
        try clear c16b2
        try clear c17
        try clear c17b0
        try clear c17b1
        try clear c19
        try clear c19b0
        try clear c20
        try clear c20b0
        try clear c21
        try clear c21b0
        try clear c21b1
        try clear c21b2
        try clear c22
        try clear c22b0
        try clear c22b1
        try clear c22b2
        try clear p23
        try clear q23
        try clear hx23
        try clear hcz12_0
        try clear hcz12_1
        try clear hcz12_2
        try clear hcz12_3
        try clear hcz23_0
        try clear hcz23_1
        try clear hcz23_2
        try clear hcz23_3
        try clear hcz27_0
        try clear hcz27_1
        try clear hcz27_2
        try clear hcz27_3
        try clear hfz12_0
        try clear hfz12_1
        try clear hfz12_2
        try clear hfz12_3
        try clear hfz23_0
        try clear hfz23_1
        try clear hfz23_2
        try clear hfz23_3
        try clear hfz27_0
        try clear hfz27_1
        try clear hfz27_2
        try clear hfz27_3
        try clear hx232_0
        try clear hx237_0
        try clear p2
        try clear p232
        try clear p237
        try clear p6
        try clear q2
        try clear q232
        try clear q237
        obtain ⟨kq, x7_6, x234000_6, x234001_6, x234002_6, x234003_6, rfl, HA, HJ6, BK233, HB⟩ := hcut
        cases kq with
        | zero => exact absurd HA.out (by simp [lockagelaw08_ChunkLong.j1])
        | succ kj6 =>
          have H := HA.out
          clear HA
          simp only [lockagelaw08_ChunkLong.j1] at H
          replace H := Option.bind_eq_some_iff.mp H
          obtain ⟨t238, A280, H⟩ := H
          replace H : (if t238 = true then ((lockagelaw08_same.f kj6 x234000_6 x234001_6 x234002_6 x234003_6 x7_6).bind fun t239 => (some t239)) else (none)) = some r := H
          have A28 := Aside0.mk A280
          clear A280
          by_cases c29 : t238 = true
          · subst c29
            have H1 : ((lockagelaw08_same.f kj6 x234000_6 x234001_6 x234002_6 x234003_6 x7_6).bind fun t239 => (some t239)) = some r := by rw [if_pos rfl] at H; exact H
            clear H
            have H := H1
            clear H1
            replace H := Option.bind_eq_some_iff.mp H
            obtain ⟨t239, A300, H⟩ := H
            replace H : (some t239) = some r := H
            have A30 := Aside0.mk A300
            clear A300
            obtain rfl := Option.some.inj H
            go_wp2_with (first | ((with_reducible refine gate_callee (f := 9) rfl ?_); refine goesL_ (some 45) rfl rfl Tryd.func9 (by kernel_rfl) rfl #[] rfl (by (try simp only [List.map_toArray, List.map_cons, List.map_nil]); first | done | rfl | (simp only [List.length_drop, List.length_take]; rfl)) ?_; (with_reducible refine (lockagelaw08_awake.calls kj6  true _ ?side1 A28.out).mono ?_); (case side1 => exact glob_below HG_.out (by repeat (first | (with_reducible first | exact HB.out | apply below_alloc | apply pw_below_drewN | apply below_drew1 | refine below_set ?_ GE233.out) | exact HB.out))); rintro e w31 ⟨rfl, hb⟩; refine ⟨_, rfl, ?_⟩; have n0_ := Aside0.mk (blk_below (g := gb233) (o := .cells #[.int .i64 x234000_6, .int .i64 x234001_6, .string x234002_6, .int .i64 x234003_6] 23 (0, 0)) (by (with_reducible repeat (first | refine blk_drewN ?_ _ | refine blk_drew ?_ | refine blk_alloc ?_ _)); exact BK233.out) hb); have n1_ := Aside0.mk (below_step (by repeat (first | (with_reducible first | exact HB.out | apply below_alloc | apply pw_below_drewN | apply below_drew1 | refine below_set ?_ GE233.out) | exact HB.out)) hb); clear BK233; clear HB; have BK233 := n0_; have HB := n1_; clear n0_ n1_; (try clear hb); (try clear hb2); (try clear hk); (try clear hi); have hcz32_0 : w31.cell? ⟨gb233, 0, none⟩ = some (.int .i64 x234000_6) := (blk_cell BK233.out 0).trans rfl; have hcz32_1 : w31.cell? ⟨gb233, 1, none⟩ = some (.int .i64 x234001_6) := (blk_cell BK233.out 1).trans rfl; have hcz32_2 : w31.cell? ⟨gb233, 2, none⟩ = some (.string x234002_6) := (blk_cell BK233.out 2).trans rfl; have hcz32_3 : w31.cell? ⟨gb233, 3, none⟩ = some (.int .i64 x234003_6) := (blk_cell BK233.out 3).trans rfl; have hfz32_0 := blk_frozen BK233.out 0; have hfz32_1 := blk_frozen BK233.out 1; have hfz32_2 := blk_frozen BK233.out 2; have hfz32_3 := blk_frozen BK233.out 3) | (go_at_call 10; (with_reducible refine (lockagelaw08_same.calls kj6 x234000_6 x234001_6 x234002_6 x234003_6 x7_6 t239 _ A30.out).mono ?_); rintro e w33 ⟨rfl, hb⟩; have n0_ := Aside0.mk (blk_below (g := gb233) (o := .cells #[.int .i64 x234000_6, .int .i64 x234001_6, .string x234002_6, .int .i64 x234003_6] 23 (0, 0)) (by (with_reducible repeat (first | refine blk_drewN ?_ _ | refine blk_drew ?_ | refine blk_alloc ?_ _)); exact BK233.out) hb); have n1_ := Aside0.mk (below_step (by repeat (first | (with_reducible first | exact HB.out | apply below_alloc | apply pw_below_drewN | apply below_drew1 | refine below_set ?_ GE233.out) | exact HB.out)) hb); clear BK233; clear HB; have BK233 := n0_; have HB := n1_; clear n0_ n1_; (try clear hb); (try clear hb2); (try clear hk); (try clear hi)))
            go_ret
            exact ⟨by first | rfl | (simp [errW_none, errW_some] <;> rfl) | (simp only [← hji4]; first | rfl | (simp [errW_none, errW_some] <;> rfl)) | (simp [*, errW_none, errW_some] <;> rfl), by repeat (first | (with_reducible first | exact HB.out | apply below_alloc | apply pw_below_drewN | apply below_drew1 | refine below_set ?_ GE233.out) | exact HB.out)⟩
          · replace c29 := Bool.eq_false_iff.mpr c29
            subst c29
            have H1 : (none) = some r := by rw [if_neg (show ¬ (false = true) by decide)] at H; exact H
            clear H
            have H := H1
            clear H1
            exact absurd H (by simp)
    · rw [if_neg c6] at H
      exact absurd H (by simp)
  · rw [if_neg c5] at H
    exact absurd H (by simp)

/-- THE ONE PURE STATEMENT of lockagelaw08_ChunkLong: yours. -/
def lockagelaw08_ChunkLong.Pure : Prop := ∀ (a0 : Int) (a1 : Int) (a2 : Int), (Lit.int .u8 a0).wf = true → (Lit.int .u8 a1).wf = true → (Lit.int .u8 a2).wf = true → ∃ k, lockagelaw08_ChunkLong.f k a0 a1 a2 = some true

end Go.Proofs.YthemlbefkdmegaaDoor.P
