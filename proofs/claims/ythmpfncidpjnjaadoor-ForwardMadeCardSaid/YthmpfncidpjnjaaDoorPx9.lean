/- Printed by a program of the session out of the translation: plain Lean functions, each with the contract that the Go function computes it. -/
import Derived.Test.YthmpfncidpjnjaaDoorPx0
import Derived.Test.YthmpfncidpjnjaaDoorPx4
import Derived.Test.YthmpfncidpjnjaaDoorPx8
import Derived.Test.YthmpfncidpjnjaaDoorHK
import Derived.Test.YthmpfncidpjnjaaDoorHZA
namespace Go.Proofs.YthmpfncidpjnjaaDoor.P
open Go.RowKit Go.Proofs.YthmpfncidpjnjaaDoorW.PrintWords Go.Proofs.YthmpfncidpjnjaaDoorW.PrintLast Go.Proofs.YthmpfncidpjnjaaDoorW.PrintMore
attribute [local go_sem] max2_int min2_int max_two min_two max_three min_three max_four min_four   -- for this text's walks alone
set_option linter.unusedVariables false
set_option linter.unusedSimpArgs false

/-! ### lockagelaw15_ForwardAny: function 3 -/
mutual
def lockagelaw15_ForwardAny.j1 : Nat → Int → Int → ByteArray → ByteArray → Int → ByteArray → Int → List (S28) → ByteArray → Option (Bool)
  | 0, _, _, _, _, _, _, _, _, _ => none
  | k + 1, x1, x5, x363000, x363001, x363002, x363003, x363004, x363005, x363006 => (lockagelaw15_awake.f k).bind fun t365 => (if t365 = true then (if (x363005.length : Int) > 30 then (some true) else (if x5 > 2000 then (some true) else ((lockagelaw15_same.f k x363000 x363001 x363002 x363003 x363004 x363005 x363006 x1).bind fun t366 => (some t366)))) else (none))
def lockagelaw15_ForwardAny.l0 : Nat → Int → Int → Int → ByteArray → ByteArray → Int → ByteArray → Int → List (S28) → ByteArray → Option (Bool)
  | 0, _, _, _, _, _, _, _, _, _, _ => none
  | k + 1, x1, x5, x6, x363000, x363001, x363002, x363003, x363004, x363005, x363006 => if x6 < (x363005.length : Int) then (if x5 ≤ 2000 then (if 0 ≤ x6 then (lockagelaw15_ForwardAny.l0 k x1 (wrap64 ((wrap64 (x5 + (((rd_T28 x363005 x6).f0).size : Int))) + (((rd_T28 x363005 x6).f1).size : Int))) (wrap64 (x6 + 1)) x363000 x363001 x363002 x363003 x363004 x363005 x363006) else (none)) else (lockagelaw15_ForwardAny.j1 k x1 x5 x363000 x363001 x363002 x363003 x363004 x363005 x363006)) else (lockagelaw15_ForwardAny.j1 k x1 x5 x363000 x363001 x363002 x363003 x363004 x363005 x363006)
end
def lockagelaw15_ForwardAny.f (k : Nat) (a0_0 : ByteArray) (a0_1 : ByteArray) (a0_2 : Int) (a0_3 : ByteArray) (a0_4 : Int) (l0_5 : List (S28)) (a0_6 : ByteArray) (a1 : Int) : Option (Bool) := lockagelaw15_ForwardAny.l0 k a1 0 0 a0_0 a0_1 a0_2 a0_3 a0_4 l0_5 a0_6
theorem lockagelaw15_ForwardAny.mono_l : ∀ k, (∀ y0 y1 y2 y3 y4 y5 y6 y7 y8, LeO (lockagelaw15_ForwardAny.j1 k y0 y1 y2 y3 y4 y5 y6 y7 y8) (lockagelaw15_ForwardAny.j1 (k + 1) y0 y1 y2 y3 y4 y5 y6 y7 y8)) ∧ (∀ y0 y1 y2 y3 y4 y5 y6 y7 y8 y9, LeO (lockagelaw15_ForwardAny.l0 k y0 y1 y2 y3 y4 y5 y6 y7 y8 y9) (lockagelaw15_ForwardAny.l0 (k + 1) y0 y1 y2 y3 y4 y5 y6 y7 y8 y9))
  | 0 => ⟨fun _ _ _ _ _ _ _ _ _ r h => by simp [lockagelaw15_ForwardAny.j1] at h, fun _ _ _ _ _ _ _ _ _ _ r h => by simp [lockagelaw15_ForwardAny.l0] at h⟩
  | k + 1 => by
    obtain ⟨ih0, ih1⟩ := lockagelaw15_ForwardAny.mono_l k
    refine ⟨?_, ?_⟩
    · intro y0 y1 y2 y3 y4 y5 y6 y7 y8
      unfold lockagelaw15_ForwardAny.j1
      repeat' first
      | (with_reducible exact ih0 _ _ _ _ _ _ _ _ _)
      | (with_reducible exact ih1 _ _ _ _ _ _ _ _ _ _)
      | (with_reducible exact lockagelaw15_awake.mono _)
      | (with_reducible exact lockagelaw15_same.mono _ _ _ _ _ _ _ _ _)
      | (with_reducible exact LeO.refl _)
      | (with_reducible exact LeO.none _)
      | (with_reducible refine LeO.ite ?_ ?_)
      | (with_reducible refine LeO.bind ?_ (fun _ => ?_))
      | exact ih0 _ _ _ _ _ _ _ _ _
      | exact ih1 _ _ _ _ _ _ _ _ _ _
      | exact lockagelaw15_awake.mono _
      | exact lockagelaw15_same.mono _ _ _ _ _ _ _ _ _
      | exact LeO.none _
      | refine LeO.ite ?_ ?_
      | refine LeO.bind ?_ (fun _ => ?_)
    · intro y0 y1 y2 y3 y4 y5 y6 y7 y8 y9
      unfold lockagelaw15_ForwardAny.l0
      repeat' first
      | (with_reducible exact ih0 _ _ _ _ _ _ _ _ _)
      | (with_reducible exact ih1 _ _ _ _ _ _ _ _ _ _)
      | (with_reducible exact lockagelaw15_awake.mono _)
      | (with_reducible exact lockagelaw15_same.mono _ _ _ _ _ _ _ _ _)
      | (with_reducible exact LeO.refl _)
      | (with_reducible exact LeO.none _)
      | (with_reducible refine LeO.ite ?_ ?_)
      | (with_reducible refine LeO.bind ?_ (fun _ => ?_))
      | exact ih0 _ _ _ _ _ _ _ _ _
      | exact ih1 _ _ _ _ _ _ _ _ _ _
      | exact lockagelaw15_awake.mono _
      | exact lockagelaw15_same.mono _ _ _ _ _ _ _ _ _
      | exact LeO.none _
      | refine LeO.ite ?_ ?_
      | refine LeO.bind ?_ (fun _ => ?_)
theorem lockagelaw15_ForwardAny.mono : ∀ a0 a1 a2 a3 a4 a5 a6 a7 k, LeO (lockagelaw15_ForwardAny.f k a0 a1 a2 a3 a4 a5 a6 a7) (lockagelaw15_ForwardAny.f (k + 1) a0 a1 a2 a3 a4 a5 a6 a7) := by
  intro a0 a1 a2 a3 a4 a5 a6 a7 k
  obtain ⟨ih0, ih1⟩ := lockagelaw15_ForwardAny.mono_l k
  unfold lockagelaw15_ForwardAny.f
  repeat' first
      | (with_reducible exact ih0 _ _ _ _ _ _ _ _ _)
      | (with_reducible exact ih1 _ _ _ _ _ _ _ _ _ _)
      | (with_reducible exact lockagelaw15_awake.mono _)
      | (with_reducible exact lockagelaw15_same.mono _ _ _ _ _ _ _ _ _)
      | (with_reducible exact LeO.refl _)
      | (with_reducible exact LeO.none _)
      | (with_reducible refine LeO.ite ?_ ?_)
      | (with_reducible refine LeO.bind ?_ (fun _ => ?_))
      | exact ih0 _ _ _ _ _ _ _ _ _
      | exact ih1 _ _ _ _ _ _ _ _ _ _
      | exact lockagelaw15_awake.mono _
      | exact lockagelaw15_same.mono _ _ _ _ _ _ _ _ _
      | exact LeO.none _
      | refine LeO.ite ?_ ?_
      | refine LeO.bind ?_ (fun _ => ?_)
set_option maxHeartbeats 8000000 in
set_option maxRecDepth 100000 in
theorem lockagelaw15_ForwardAny.calls (k : Nat) (a0_0 : ByteArray) (a0_1 : ByteArray) (a0_2 : Int) (a0_3 : ByteArray) (a0_4 : Int) (A0_5 : Option Addr) (c0_5 : Nat) (l0_5 : List (S28)) (a0_6 : ByteArray) (a1 : Int) (r : Bool) (w : World) (hr0_5 : Kd.C k28 w A0_5 l0_5.length l0_5) (hc0_5 : l0_5.length ≤ c0_5) (hG_ : H.GlobOk w) (h : lockagelaw15_ForwardAny.f k a0_0 a0_1 a0_2 a0_3 a0_4 l0_5 a0_6 a1 = some r) :
    Calls Tryd.prog 3 #[.agg #[.string a0_0, .string a0_1, .int .i64 a0_2, .string a0_3, .int .i64 a0_4, .slice A0_5 l0_5.length c0_5, .string a0_6], .int .i64 a1] w fun e w' => e = .returned (.bool r) ∧ Below w.heap.size w w' := by
  have HG_ := Aside0.mk hG_
  clear hG_
  have hu26 := Tryd.underlying26
  have HR0_5 := Aside0.mk hr0_5
  have HC0_5 := Aside0.mk hc0_5
  clear hr0_5 hc0_5
  have HB := Aside0.mk (Below.refl w.heap.size w)
  have H : (lockagelaw15_ForwardAny.l0 k a1 0 0 a0_0 a0_1 a0_2 a0_3 a0_4 l0_5 a0_6) = some r := h
  clear h
  have HC3 := Aside0.mk H
  clear H
  go_enter Tryd.func3, Tryd.ntmps3
  go_upto_block 0 with (first | ((with_reducible refine gate_dst (N := 2) rfl ?_); (try (refine gate_guard (by rfl) ?_; dsimp only)); refine box_event ?hg (N := 2) ?hd (cs := #[.string a0_0, .string a0_1, .int .i64 a0_2, .string a0_3, .int .i64 a0_4, .slice A0_5 l0_5.length c0_5, .string a0_6]) (t := 26) ?hr ?_; (case hd => rfl); (case hg => rfl); (case hr => first | (go_simp; done) | (go_simp; rfl)); intro gb362 hg w4 hbox hb; have n0_ := Aside0.mk (below_step (by repeat (first | (with_reducible first | exact HB.out | apply below_alloc | apply pw_below_drewN | apply below_drew1) | exact HB.out)) hb); have n1_ := Aside0.mk (hbox); have n2_ := Aside0.mk ((by rw [hg]; exact (below_size (by repeat (first | (with_reducible first | exact HB.out | apply below_alloc | apply pw_below_drewN | apply below_drew1) | exact HB.out))) : w.heap.size ≤ gb362)); have n3_ := Aside0.mk ((by rw [hg]; exact (below_size (by repeat (first | (with_reducible first | exact HB.out | apply below_alloc | apply pw_below_drewN | apply below_drew1) | exact HB.out))) : w.heap.size ≤ gb362)); clear HB; have HB := n0_; have BK362 := n1_; have GW362 := n2_; have GE362 := n3_; clear n0_ n1_ n2_ n3_; clear hb hbox hg))
  repeat (go_quiet (first | ((with_reducible refine gate_dst (N := 2) rfl ?_); (try (refine gate_guard (by rfl) ?_; dsimp only)); refine box_event ?hg (N := 2) ?hd (cs := #[.string a0_0, .string a0_1, .int .i64 a0_2, .string a0_3, .int .i64 a0_4, .slice A0_5 l0_5.length c0_5, .string a0_6]) (t := 26) ?hr ?_; (case hd => rfl); (case hg => rfl); (case hr => first | (go_simp; done) | (go_simp; rfl)); intro gb362 hg w4 hbox hb; have n0_ := Aside0.mk (below_step (by repeat (first | (with_reducible first | exact HB.out | apply below_alloc | apply pw_below_drewN | apply below_drew1) | exact HB.out)) hb); have n1_ := Aside0.mk (hbox); have n2_ := Aside0.mk ((by rw [hg]; exact (below_size (by repeat (first | (with_reducible first | exact HB.out | apply below_alloc | apply pw_below_drewN | apply below_drew1) | exact HB.out))) : w.heap.size ≤ gb362)); have n3_ := Aside0.mk ((by rw [hg]; exact (below_size (by repeat (first | (with_reducible first | exact HB.out | apply below_alloc | apply pw_below_drewN | apply below_drew1) | exact HB.out))) : w.heap.size ≤ gb362)); clear HB; have HB := n0_; have BK362 := n1_; have GW362 := n2_; have GE362 := n3_; clear n0_ n1_ n2_ n3_; clear hb hbox hg)); go_upto_block 0 with (first | ((with_reducible refine gate_dst (N := 2) rfl ?_); (try (refine gate_guard (by rfl) ?_; dsimp only)); refine box_event ?hg (N := 2) ?hd (cs := #[.string a0_0, .string a0_1, .int .i64 a0_2, .string a0_3, .int .i64 a0_4, .slice A0_5 l0_5.length c0_5, .string a0_6]) (t := 26) ?hr ?_; (case hd => rfl); (case hg => rfl); (case hr => first | (go_simp; done) | (go_simp; rfl)); intro gb362 hg w4 hbox hb; have n0_ := Aside0.mk (below_step (by repeat (first | (with_reducible first | exact HB.out | apply below_alloc | apply pw_below_drewN | apply below_drew1) | exact HB.out)) hb); have n1_ := Aside0.mk (hbox); have n2_ := Aside0.mk ((by rw [hg]; exact (below_size (by repeat (first | (with_reducible first | exact HB.out | apply below_alloc | apply pw_below_drewN | apply below_drew1) | exact HB.out))) : w.heap.size ≤ gb362)); have n3_ := Aside0.mk ((by rw [hg]; exact (below_size (by repeat (first | (with_reducible first | exact HB.out | apply below_alloc | apply pw_below_drewN | apply below_drew1) | exact HB.out))) : w.heap.size ≤ gb362)); clear HB; have HB := n0_; have BK362 := n1_; have GW362 := n2_; have GE362 := n3_; clear n0_ n1_ n2_ n3_; clear hb hbox hg)))
  (try simp only [Act.put, List.setIfInBounds_toArray, List.set_cons_zero, List.set_cons_succ])
  go_cut [5] (fun v5 wc => ∃ (kq : Nat) (x5_2 : Int), v5 = .int .i64 x5_2 ∧ Aside0 (lockagelaw15_ForwardAny.j1 kq a1 x5_2 a0_0 a0_1 a0_2 a0_3 a0_4 l0_5 a0_6 = some r) ∧ Aside0 (kq ≤ k) ∧ Aside0 (wc.heap[gb362]? = some (.cells #[.string a0_0, .string a0_1, .int .i64 a0_2, .string a0_3, .int .i64 a0_4, (.slice A0_5 l0_5.length c0_5), .string a0_6] 26 (0, 0))) ∧ Aside0 (Below w.heap.size w wc))
  case first =>
    have H := HC3.out
    clear HC3
    have H' := Aside0.mk H
    clear H
    go_wp2
    repeat (go_quiet (fail); try go_wp2)
    go_loopg [5, 6] k (fun kq v5 v6 w' => ∃ (x5_1 : Int) (x6_1 : Int), v5 = .int .i64 x5_1 ∧ v6 = .int .i64 x6_1 ∧ Aside0 (lockagelaw15_ForwardAny.l0 kq a1 x5_1 x6_1 a0_0 a0_1 a0_2 a0_3 a0_4 l0_5 a0_6 = some r) ∧ Aside0 (kq ≤ k) ∧ Aside0 (w'.heap[gb362]? = some (.cells #[.string a0_0, .string a0_1, .int .i64 a0_2, .string a0_3, .int .i64 a0_4, (.slice A0_5 l0_5.length c0_5), .string a0_6] 26 (0, 0))) ∧ Aside0 (Below w.heap.size w w'))
    case atStart => exact ⟨(0), (0), (by first | rfl | (simp; done) | (simp [*]; done)), (by first | rfl | (simp; done) | (simp [*]; done)), H', ⟨Nat.le_refl _⟩, ⟨by (with_reducible repeat (first | refine blk_drewN ?_ _ | refine blk_drew ?_ | refine blk_alloc ?_ _)); exact BK362.out⟩, ⟨by repeat (first | (with_reducible first | exact HB.out | apply below_alloc | apply pw_below_drewN | apply below_drew1 | refine below_set ?_ GE362.out) | exact HB.out)⟩⟩
    case round =>
      clear H'
      try clear p2
      try clear c3
      obtain ⟨x5_1, x6_1, rfl, rfl, HA, HK1, BK362, HB⟩ := hrel
      cases gk with
      | zero => exact absurd HA.out (by simp [lockagelaw15_ForwardAny.l0])
      | succ k1 =>
        have H := HA.out
        clear HA
        simp only [lockagelaw15_ForwardAny.l0] at H
        by_cases c5 : x6_1 < (l0_5.length : Int)
        · rw [if_pos c5] at H
          have c5b0 : decide (x6_1 < (l0_5.length : Int)) = true := decide_eq_true c5
          clear c5
          (first | rw [c5b0] | (simp only [i64_w, i32_w]; rw [c5b0]) | skip)
          by_cases c6 : x5_1 ≤ 2000
          · rw [if_pos c6] at H
            have c6b0 : decide (x5_1 ≤ 2000) = true := decide_eq_true c6
            clear c6
            by_cases c7 : 0 ≤ x6_1
            · rw [if_pos c7] at H
              have c7b0 : decide (0 ≤ x6_1) = true := decide_eq_true c7
              clear c7
              have H' := Aside0.mk H
              clear H
              have hcz8_0 : wr.cell? ⟨gb362, 0, none⟩ = some (.string a0_0) := (blk_cell BK362.out 0).trans rfl
              have hcz8_1 : wr.cell? ⟨gb362, 1, none⟩ = some (.string a0_1) := (blk_cell BK362.out 1).trans rfl
              have hcz8_2 : wr.cell? ⟨gb362, 2, none⟩ = some (.int .i64 a0_2) := (blk_cell BK362.out 2).trans rfl
              have hcz8_3 : wr.cell? ⟨gb362, 3, none⟩ = some (.string a0_3) := (blk_cell BK362.out 3).trans rfl
              have hcz8_4 : wr.cell? ⟨gb362, 4, none⟩ = some (.int .i64 a0_4) := (blk_cell BK362.out 4).trans rfl
              have hcz8_5 : wr.cell? ⟨gb362, 5, none⟩ = some (.slice A0_5 l0_5.length c0_5) := (blk_cell BK362.out 5).trans rfl
              have hcz8_6 : wr.cell? ⟨gb362, 6, none⟩ = some (.string a0_6) := (blk_cell BK362.out 6).trans rfl
              have hfz8_0 := blk_frozen BK362.out 0
              have hfz8_1 := blk_frozen BK362.out 1
              have hfz8_2 := blk_frozen BK362.out 2
              have hfz8_3 := blk_frozen BK362.out 3
              have hfz8_4 := blk_frozen BK362.out 4
              have hfz8_5 := blk_frozen BK362.out 5
              have hfz8_6 := blk_frozen BK362.out 6
              have p363 : 0 ≤ (x6_1 : Int) := of_decide_eq_true (by first | (with_reducible assumption) | assumption)
              have q363 : x6_1 < (l0_5.length : Int) := of_decide_eq_true (by first | (with_reducible assumption) | assumption)
              obtain ⟨ad363, e363, hx363_0, hx363_1⟩ := at_T28 HR0_5.out x6_1 p363 q363
              cases e363
              replace hx363_0 := (HB.out.cell (World.block_lt_of_cell? w _ hx363_0)).trans hx363_0
              replace hx363_1 := (HB.out.cell (World.block_lt_of_cell? w _ hx363_1)).trans hx363_1
              replace p363 := eq_true p363
              replace q363 := eq_true q363
              have p364 : 0 ≤ (x6_1 : Int) := of_decide_eq_true (by first | (with_reducible assumption) | assumption)
              have q364 : x6_1 < (l0_5.length : Int) := of_decide_eq_true (by first | (with_reducible assumption) | assumption)
              obtain ⟨ad364, e364, hx364_0, hx364_1⟩ := at_T28 HR0_5.out x6_1 p364 q364
              obtain rfl : ad363 = ad364 := (by injection e364)
              replace hx364_0 := (HB.out.cell (World.block_lt_of_cell? w _ hx364_0)).trans hx364_0
              replace hx364_1 := (HB.out.cell (World.block_lt_of_cell? w _ hx364_1)).trans hx364_1
              replace p364 := eq_true p364
              replace q364 := eq_true q364
              go_wp2
              repeat (go_quiet (fail); try go_wp2)
              go_roundg k1
              case measure => have := HK1.out; omega
              case rel => exact ⟨(wrap64 ((wrap64 (x5_1 + (((rd_T28 l0_5 x6_1).f0).size : Int))) + (((rd_T28 l0_5 x6_1).f1).size : Int))), (wrap64 (x6_1 + 1)), (by first | rfl | (simp; done) | (simp [*]; done)), (by first | rfl | (simp; done) | (simp [*]; done)), H', ⟨by have := HK1.out; omega⟩, ⟨by (with_reducible repeat (first | refine blk_drewN ?_ _ | refine blk_drew ?_ | refine blk_alloc ?_ _)); exact BK362.out⟩, ⟨by repeat (first | (with_reducible first | exact HB.out | apply below_alloc | apply pw_below_drewN | apply below_drew1 | refine below_set ?_ GE362.out) | exact HB.out)⟩⟩
            · rw [if_neg c7] at H
              exact absurd H (by simp)
          · rw [if_neg c6] at H
            have c6b0 : decide (x5_1 ≤ 2000) = false := decide_eq_false c6
            clear c6
            have H' := Aside0.mk H
            clear H
            have hcz9_0 : wr.cell? ⟨gb362, 0, none⟩ = some (.string a0_0) := (blk_cell BK362.out 0).trans rfl
            have hcz9_1 : wr.cell? ⟨gb362, 1, none⟩ = some (.string a0_1) := (blk_cell BK362.out 1).trans rfl
            have hcz9_2 : wr.cell? ⟨gb362, 2, none⟩ = some (.int .i64 a0_2) := (blk_cell BK362.out 2).trans rfl
            have hcz9_3 : wr.cell? ⟨gb362, 3, none⟩ = some (.string a0_3) := (blk_cell BK362.out 3).trans rfl
            have hcz9_4 : wr.cell? ⟨gb362, 4, none⟩ = some (.int .i64 a0_4) := (blk_cell BK362.out 4).trans rfl
            have hcz9_5 : wr.cell? ⟨gb362, 5, none⟩ = some (.slice A0_5 l0_5.length c0_5) := (blk_cell BK362.out 5).trans rfl
            have hcz9_6 : wr.cell? ⟨gb362, 6, none⟩ = some (.string a0_6) := (blk_cell BK362.out 6).trans rfl
            have hfz9_0 := blk_frozen BK362.out 0
            have hfz9_1 := blk_frozen BK362.out 1
            have hfz9_2 := blk_frozen BK362.out 2
            have hfz9_3 := blk_frozen BK362.out 3
            have hfz9_4 := blk_frozen BK362.out 4
            have hfz9_5 := blk_frozen BK362.out 5
            have hfz9_6 := blk_frozen BK362.out 6
            go_wp2
            repeat (go_quiet (fail); try go_wp2)
            go_meet
            case rel => exact ⟨_, (x5_1), (by first | rfl | (simp; done) | (simp [*]; done)), H', ⟨by have := HK1.out; first | omega | exact Nat.le_refl _⟩, ⟨by (with_reducible repeat (first | refine blk_drewN ?_ _ | refine blk_drew ?_ | refine blk_alloc ?_ _)); exact BK362.out⟩, ⟨by repeat (first | (with_reducible first | exact HB.out | apply below_alloc | apply pw_below_drewN | apply below_drew1 | refine below_set ?_ GE362.out) | exact HB.out)⟩⟩
        · rw [if_neg c5] at H
          have c5b0 : decide (x6_1 < (l0_5.length : Int)) = false := decide_eq_false c5
          clear c5
          (first | rw [c5b0] | (simp only [i64_w, i32_w]; rw [c5b0]) | skip)
          have H' := Aside0.mk H
          clear H
          have hcz10_0 : wr.cell? ⟨gb362, 0, none⟩ = some (.string a0_0) := (blk_cell BK362.out 0).trans rfl
          have hcz10_1 : wr.cell? ⟨gb362, 1, none⟩ = some (.string a0_1) := (blk_cell BK362.out 1).trans rfl
          have hcz10_2 : wr.cell? ⟨gb362, 2, none⟩ = some (.int .i64 a0_2) := (blk_cell BK362.out 2).trans rfl
          have hcz10_3 : wr.cell? ⟨gb362, 3, none⟩ = some (.string a0_3) := (blk_cell BK362.out 3).trans rfl
          have hcz10_4 : wr.cell? ⟨gb362, 4, none⟩ = some (.int .i64 a0_4) := (blk_cell BK362.out 4).trans rfl
          have hcz10_5 : wr.cell? ⟨gb362, 5, none⟩ = some (.slice A0_5 l0_5.length c0_5) := (blk_cell BK362.out 5).trans rfl
          have hcz10_6 : wr.cell? ⟨gb362, 6, none⟩ = some (.string a0_6) := (blk_cell BK362.out 6).trans rfl
          have hfz10_0 := blk_frozen BK362.out 0
          have hfz10_1 := blk_frozen BK362.out 1
          have hfz10_2 := blk_frozen BK362.out 2
          have hfz10_3 := blk_frozen BK362.out 3
          have hfz10_4 := blk_frozen BK362.out 4
          have hfz10_5 := blk_frozen BK362.out 5
          have hfz10_6 := blk_frozen BK362.out 6
          go_wp2
          repeat (go_quiet (fail); try go_wp2)
          go_meet
          case rel => exact ⟨_, (x5_1), (by first | rfl | (simp; done) | (simp [*]; done)), H', ⟨by have := HK1.out; first | omega | exact Nat.le_refl _⟩, ⟨by (with_reducible repeat (first | refine blk_drewN ?_ _ | refine blk_drew ?_ | refine blk_alloc ?_ _)); exact BK362.out⟩, ⟨by repeat (first | (with_reducible first | exact HB.out | apply below_alloc | apply pw_below_drewN | apply below_drew1 | refine below_set ?_ GE362.out) | exact HB.out)⟩⟩
  case rest =>
    clear HC3
    try clear p2
    try clear c3
    try clear p3
    try clear q3
    try clear hx3
    try clear c5
    try clear c5b0
    try clear c6
    try clear c6b0
    try clear p6
    try clear c7
    try clear c7b0
    try clear hcz10_0
    try clear hcz10_1
    try clear hcz10_2
    try clear hcz10_3
    try clear hcz10_4
    try clear hcz10_5
    try clear hcz10_6
    try clear hcz8_0
    try clear hcz8_1
    try clear hcz8_2
    try clear hcz8_3
    try clear hcz8_4
    try clear hcz8_5
    try clear hcz8_6
    try clear hcz9_0
    try clear hcz9_1
    try clear hcz9_2
    try clear hcz9_3
    try clear hcz9_4
    try clear hcz9_5
    try clear hcz9_6
    try clear hfz10_0
    try clear hfz10_1
    try clear hfz10_2
    try clear hfz10_3
    try clear hfz10_4
    try clear hfz10_5
    try clear hfz10_6
    try clear hfz8_0
    try clear hfz8_1
    try clear hfz8_2
    try clear hfz8_3
    try clear hfz8_4
    try clear hfz8_5
    try clear hfz8_6
    try clear hfz9_0
    try clear hfz9_1
    try clear hfz9_2
    try clear hfz9_3
    try clear hfz9_4
    try clear hfz9_5
    try clear hfz9_6
    try clear hx363_0
    try clear hx363_1
    try clear hx364_0
    try clear hx364_1
    try clear p2
    try clear p363
    try clear p364
    try clear q363
    try clear q364
    obtain ⟨kq, x5_2, rfl, HA, HJ2, BK362, HB⟩ := hcut
    cases kq with
    | zero => exact absurd HA.out (by simp [lockagelaw15_ForwardAny.j1])
    | succ kj2 =>
      have H := HA.out
      clear HA
      simp only [lockagelaw15_ForwardAny.j1] at H
      replace H := Option.bind_eq_some_iff.mp H
      obtain ⟨t365, A110, H⟩ := H
      replace H : (if t365 = true then (if (l0_5.length : Int) > 30 then (some true) else (if x5_2 > 2000 then (some true) else ((lockagelaw15_same.f kj2 a0_0 a0_1 a0_2 a0_3 a0_4 l0_5 a0_6 a1).bind fun t366 => (some t366)))) else (none)) = some r := H
      have A11 := Aside0.mk A110
      clear A110
      by_cases c12 : t365 = true
      · subst c12
        have H1 : (if (l0_5.length : Int) > 30 then (some true) else (if x5_2 > 2000 then (some true) else ((lockagelaw15_same.f kj2 a0_0 a0_1 a0_2 a0_3 a0_4 l0_5 a0_6 a1).bind fun t366 => (some t366)))) = some r := by rw [if_pos rfl] at H; exact H
        clear H
        have H := H1
        clear H1
        by_cases c13 : (l0_5.length : Int) > 30
        · rw [if_pos c13] at H
          have c13b0 : decide (30 < (l0_5.length : Int)) = true := decide_eq_true c13
          have c13b1 : decide (30 < l0_5.length) = true := decide_eq_true (by omega)
          clear c13
          obtain rfl := Option.some.inj H
          go_wp2_with (first | (go_at_call 7; (with_reducible refine (lockagelaw15_awake.calls kj2  true _ ?side1 A11.out).mono ?_); (case side1 => exact glob_below HG_.out (by repeat (first | (with_reducible first | exact HB.out | apply below_alloc | apply pw_below_drewN | apply below_drew1 | refine below_set ?_ GE362.out) | exact HB.out))); rintro e w14 ⟨rfl, hb⟩; have n0_ := Aside0.mk (blk_below (g := gb362) (o := .cells #[.string a0_0, .string a0_1, .int .i64 a0_2, .string a0_3, .int .i64 a0_4, .slice A0_5 l0_5.length c0_5, .string a0_6] 26 (0, 0)) (by (with_reducible repeat (first | refine blk_drewN ?_ _ | refine blk_drew ?_ | refine blk_alloc ?_ _)); exact BK362.out) hb); have n1_ := Aside0.mk (below_step (by repeat (first | (with_reducible first | exact HB.out | apply below_alloc | apply pw_below_drewN | apply below_drew1 | refine below_set ?_ GE362.out) | exact HB.out)) hb); clear BK362; clear HB; have BK362 := n0_; have HB := n1_; clear n0_ n1_; (try clear hb); (try clear hb2); (try clear hk); (try clear hi); have hcz15_0 : w14.cell? ⟨gb362, 0, none⟩ = some (.string a0_0) := (blk_cell BK362.out 0).trans rfl; have hcz15_1 : w14.cell? ⟨gb362, 1, none⟩ = some (.string a0_1) := (blk_cell BK362.out 1).trans rfl; have hcz15_2 : w14.cell? ⟨gb362, 2, none⟩ = some (.int .i64 a0_2) := (blk_cell BK362.out 2).trans rfl; have hcz15_3 : w14.cell? ⟨gb362, 3, none⟩ = some (.string a0_3) := (blk_cell BK362.out 3).trans rfl; have hcz15_4 : w14.cell? ⟨gb362, 4, none⟩ = some (.int .i64 a0_4) := (blk_cell BK362.out 4).trans rfl; have hcz15_5 : w14.cell? ⟨gb362, 5, none⟩ = some (.slice A0_5 l0_5.length c0_5) := (blk_cell BK362.out 5).trans rfl; have hcz15_6 : w14.cell? ⟨gb362, 6, none⟩ = some (.string a0_6) := (blk_cell BK362.out 6).trans rfl; have hfz15_0 := blk_frozen BK362.out 0; have hfz15_1 := blk_frozen BK362.out 1; have hfz15_2 := blk_frozen BK362.out 2; have hfz15_3 := blk_frozen BK362.out 3; have hfz15_4 := blk_frozen BK362.out 4; have hfz15_5 := blk_frozen BK362.out 5; have hfz15_6 := blk_frozen BK362.out 6))
          repeat (go_quiet (first | (go_at_call 7; (with_reducible refine (lockagelaw15_awake.calls kj2  true _ ?side1 A11.out).mono ?_); (case side1 => exact glob_below HG_.out (by repeat (first | (with_reducible first | exact HB.out | apply below_alloc | apply pw_below_drewN | apply below_drew1 | refine below_set ?_ GE362.out) | exact HB.out))); rintro e w14 ⟨rfl, hb⟩; have n0_ := Aside0.mk (blk_below (g := gb362) (o := .cells #[.string a0_0, .string a0_1, .int .i64 a0_2, .string a0_3, .int .i64 a0_4, .slice A0_5 l0_5.length c0_5, .string a0_6] 26 (0, 0)) (by (with_reducible repeat (first | refine blk_drewN ?_ _ | refine blk_drew ?_ | refine blk_alloc ?_ _)); exact BK362.out) hb); have n1_ := Aside0.mk (below_step (by repeat (first | (with_reducible first | exact HB.out | apply below_alloc | apply pw_below_drewN | apply below_drew1 | refine below_set ?_ GE362.out) | exact HB.out)) hb); clear BK362; clear HB; have BK362 := n0_; have HB := n1_; clear n0_ n1_; (try clear hb); (try clear hb2); (try clear hk); (try clear hi); have hcz15_0 : w14.cell? ⟨gb362, 0, none⟩ = some (.string a0_0) := (blk_cell BK362.out 0).trans rfl; have hcz15_1 : w14.cell? ⟨gb362, 1, none⟩ = some (.string a0_1) := (blk_cell BK362.out 1).trans rfl; have hcz15_2 : w14.cell? ⟨gb362, 2, none⟩ = some (.int .i64 a0_2) := (blk_cell BK362.out 2).trans rfl; have hcz15_3 : w14.cell? ⟨gb362, 3, none⟩ = some (.string a0_3) := (blk_cell BK362.out 3).trans rfl; have hcz15_4 : w14.cell? ⟨gb362, 4, none⟩ = some (.int .i64 a0_4) := (blk_cell BK362.out 4).trans rfl; have hcz15_5 : w14.cell? ⟨gb362, 5, none⟩ = some (.slice A0_5 l0_5.length c0_5) := (blk_cell BK362.out 5).trans rfl; have hcz15_6 : w14.cell? ⟨gb362, 6, none⟩ = some (.string a0_6) := (blk_cell BK362.out 6).trans rfl; have hfz15_0 := blk_frozen BK362.out 0; have hfz15_1 := blk_frozen BK362.out 1; have hfz15_2 := blk_frozen BK362.out 2; have hfz15_3 := blk_frozen BK362.out 3; have hfz15_4 := blk_frozen BK362.out 4; have hfz15_5 := blk_frozen BK362.out 5; have hfz15_6 := blk_frozen BK362.out 6)); try go_wp2_with (first | (go_at_call 7; (with_reducible refine (lockagelaw15_awake.calls kj2  true _ ?side1 A11.out).mono ?_); (case side1 => exact glob_below HG_.out (by repeat (first | (with_reducible first | exact HB.out | apply below_alloc | apply pw_below_drewN | apply below_drew1 | refine below_set ?_ GE362.out) | exact HB.out))); rintro e w14 ⟨rfl, hb⟩; have n0_ := Aside0.mk (blk_below (g := gb362) (o := .cells #[.string a0_0, .string a0_1, .int .i64 a0_2, .string a0_3, .int .i64 a0_4, .slice A0_5 l0_5.length c0_5, .string a0_6] 26 (0, 0)) (by (with_reducible repeat (first | refine blk_drewN ?_ _ | refine blk_drew ?_ | refine blk_alloc ?_ _)); exact BK362.out) hb); have n1_ := Aside0.mk (below_step (by repeat (first | (with_reducible first | exact HB.out | apply below_alloc | apply pw_below_drewN | apply below_drew1 | refine below_set ?_ GE362.out) | exact HB.out)) hb); clear BK362; clear HB; have BK362 := n0_; have HB := n1_; clear n0_ n1_; (try clear hb); (try clear hb2); (try clear hk); (try clear hi); have hcz15_0 : w14.cell? ⟨gb362, 0, none⟩ = some (.string a0_0) := (blk_cell BK362.out 0).trans rfl; have hcz15_1 : w14.cell? ⟨gb362, 1, none⟩ = some (.string a0_1) := (blk_cell BK362.out 1).trans rfl; have hcz15_2 : w14.cell? ⟨gb362, 2, none⟩ = some (.int .i64 a0_2) := (blk_cell BK362.out 2).trans rfl; have hcz15_3 : w14.cell? ⟨gb362, 3, none⟩ = some (.string a0_3) := (blk_cell BK362.out 3).trans rfl; have hcz15_4 : w14.cell? ⟨gb362, 4, none⟩ = some (.int .i64 a0_4) := (blk_cell BK362.out 4).trans rfl; have hcz15_5 : w14.cell? ⟨gb362, 5, none⟩ = some (.slice A0_5 l0_5.length c0_5) := (blk_cell BK362.out 5).trans rfl; have hcz15_6 : w14.cell? ⟨gb362, 6, none⟩ = some (.string a0_6) := (blk_cell BK362.out 6).trans rfl; have hfz15_0 := blk_frozen BK362.out 0; have hfz15_1 := blk_frozen BK362.out 1; have hfz15_2 := blk_frozen BK362.out 2; have hfz15_3 := blk_frozen BK362.out 3; have hfz15_4 := blk_frozen BK362.out 4; have hfz15_5 := blk_frozen BK362.out 5; have hfz15_6 := blk_frozen BK362.out 6)))
          go_ret
          exact ⟨by first | rfl | (simp [errW_none, errW_some] <;> rfl) | (simp [*, errW_none, errW_some] <;> rfl), by repeat (first | (with_reducible first | exact HB.out | apply below_alloc | apply pw_below_drewN | apply below_drew1 | refine below_set ?_ GE362.out) | exact HB.out)⟩
        · rw [if_neg c13] at H
          have c13b0 : decide (30 < (l0_5.length : Int)) = false := decide_eq_false c13
          have c13b1 : decide (30 < l0_5.length) = false := decide_eq_false (by omega)
          clear c13
          by_cases c16 : x5_2 > 2000
          · rw [if_pos c16] at H
            have c16b0 : decide (2000 < x5_2) = true := decide_eq_true c16
            clear c16
            obtain rfl := Option.some.inj H
            go_wp2_with (first | (go_at_call 7; (with_reducible refine (lockagelaw15_awake.calls kj2  true _ ?side1 A11.out).mono ?_); (case side1 => exact glob_below HG_.out (by repeat (first | (with_reducible first | exact HB.out | apply below_alloc | apply pw_below_drewN | apply below_drew1 | refine below_set ?_ GE362.out) | exact HB.out))); rintro e w17 ⟨rfl, hb⟩; have n0_ := Aside0.mk (blk_below (g := gb362) (o := .cells #[.string a0_0, .string a0_1, .int .i64 a0_2, .string a0_3, .int .i64 a0_4, .slice A0_5 l0_5.length c0_5, .string a0_6] 26 (0, 0)) (by (with_reducible repeat (first | refine blk_drewN ?_ _ | refine blk_drew ?_ | refine blk_alloc ?_ _)); exact BK362.out) hb); have n1_ := Aside0.mk (below_step (by repeat (first | (with_reducible first | exact HB.out | apply below_alloc | apply pw_below_drewN | apply below_drew1 | refine below_set ?_ GE362.out) | exact HB.out)) hb); clear BK362; clear HB; have BK362 := n0_; have HB := n1_; clear n0_ n1_; (try clear hb); (try clear hb2); (try clear hk); (try clear hi); have hcz18_0 : w17.cell? ⟨gb362, 0, none⟩ = some (.string a0_0) := (blk_cell BK362.out 0).trans rfl; have hcz18_1 : w17.cell? ⟨gb362, 1, none⟩ = some (.string a0_1) := (blk_cell BK362.out 1).trans rfl; have hcz18_2 : w17.cell? ⟨gb362, 2, none⟩ = some (.int .i64 a0_2) := (blk_cell BK362.out 2).trans rfl; have hcz18_3 : w17.cell? ⟨gb362, 3, none⟩ = some (.string a0_3) := (blk_cell BK362.out 3).trans rfl; have hcz18_4 : w17.cell? ⟨gb362, 4, none⟩ = some (.int .i64 a0_4) := (blk_cell BK362.out 4).trans rfl; have hcz18_5 : w17.cell? ⟨gb362, 5, none⟩ = some (.slice A0_5 l0_5.length c0_5) := (blk_cell BK362.out 5).trans rfl; have hcz18_6 : w17.cell? ⟨gb362, 6, none⟩ = some (.string a0_6) := (blk_cell BK362.out 6).trans rfl; have hfz18_0 := blk_frozen BK362.out 0; have hfz18_1 := blk_frozen BK362.out 1; have hfz18_2 := blk_frozen BK362.out 2; have hfz18_3 := blk_frozen BK362.out 3; have hfz18_4 := blk_frozen BK362.out 4; have hfz18_5 := blk_frozen BK362.out 5; have hfz18_6 := blk_frozen BK362.out 6))
            repeat (go_quiet (first | (go_at_call 7; (with_reducible refine (lockagelaw15_awake.calls kj2  true _ ?side1 A11.out).mono ?_); (case side1 => exact glob_below HG_.out (by repeat (first | (with_reducible first | exact HB.out | apply below_alloc | apply pw_below_drewN | apply below_drew1 | refine below_set ?_ GE362.out) | exact HB.out))); rintro e w17 ⟨rfl, hb⟩; have n0_ := Aside0.mk (blk_below (g := gb362) (o := .cells #[.string a0_0, .string a0_1, .int .i64 a0_2, .string a0_3, .int .i64 a0_4, .slice A0_5 l0_5.length c0_5, .string a0_6] 26 (0, 0)) (by (with_reducible repeat (first | refine blk_drewN ?_ _ | refine blk_drew ?_ | refine blk_alloc ?_ _)); exact BK362.out) hb); have n1_ := Aside0.mk (below_step (by repeat (first | (with_reducible first | exact HB.out | apply below_alloc | apply pw_below_drewN | apply below_drew1 | refine below_set ?_ GE362.out) | exact HB.out)) hb); clear BK362; clear HB; have BK362 := n0_; have HB := n1_; clear n0_ n1_; (try clear hb); (try clear hb2); (try clear hk); (try clear hi); have hcz18_0 : w17.cell? ⟨gb362, 0, none⟩ = some (.string a0_0) := (blk_cell BK362.out 0).trans rfl; have hcz18_1 : w17.cell? ⟨gb362, 1, none⟩ = some (.string a0_1) := (blk_cell BK362.out 1).trans rfl; have hcz18_2 : w17.cell? ⟨gb362, 2, none⟩ = some (.int .i64 a0_2) := (blk_cell BK362.out 2).trans rfl; have hcz18_3 : w17.cell? ⟨gb362, 3, none⟩ = some (.string a0_3) := (blk_cell BK362.out 3).trans rfl; have hcz18_4 : w17.cell? ⟨gb362, 4, none⟩ = some (.int .i64 a0_4) := (blk_cell BK362.out 4).trans rfl; have hcz18_5 : w17.cell? ⟨gb362, 5, none⟩ = some (.slice A0_5 l0_5.length c0_5) := (blk_cell BK362.out 5).trans rfl; have hcz18_6 : w17.cell? ⟨gb362, 6, none⟩ = some (.string a0_6) := (blk_cell BK362.out 6).trans rfl; have hfz18_0 := blk_frozen BK362.out 0; have hfz18_1 := blk_frozen BK362.out 1; have hfz18_2 := blk_frozen BK362.out 2; have hfz18_3 := blk_frozen BK362.out 3; have hfz18_4 := blk_frozen BK362.out 4; have hfz18_5 := blk_frozen BK362.out 5; have hfz18_6 := blk_frozen BK362.out 6)); try go_wp2_with (first | (go_at_call 7; (with_reducible refine (lockagelaw15_awake.calls kj2  true _ ?side1 A11.out).mono ?_); (case side1 => exact glob_below HG_.out (by repeat (first | (with_reducible first | exact HB.out | apply below_alloc | apply pw_below_drewN | apply below_drew1 | refine below_set ?_ GE362.out) | exact HB.out))); rintro e w17 ⟨rfl, hb⟩; have n0_ := Aside0.mk (blk_below (g := gb362) (o := .cells #[.string a0_0, .string a0_1, .int .i64 a0_2, .string a0_3, .int .i64 a0_4, .slice A0_5 l0_5.length c0_5, .string a0_6] 26 (0, 0)) (by (with_reducible repeat (first | refine blk_drewN ?_ _ | refine blk_drew ?_ | refine blk_alloc ?_ _)); exact BK362.out) hb); have n1_ := Aside0.mk (below_step (by repeat (first | (with_reducible first | exact HB.out | apply below_alloc | apply pw_below_drewN | apply below_drew1 | refine below_set ?_ GE362.out) | exact HB.out)) hb); clear BK362; clear HB; have BK362 := n0_; have HB := n1_; clear n0_ n1_; (try clear hb); (try clear hb2); (try clear hk); (try clear hi); have hcz18_0 : w17.cell? ⟨gb362, 0, none⟩ = some (.string a0_0) := (blk_cell BK362.out 0).trans rfl; have hcz18_1 : w17.cell? ⟨gb362, 1, none⟩ = some (.string a0_1) := (blk_cell BK362.out 1).trans rfl; have hcz18_2 : w17.cell? ⟨gb362, 2, none⟩ = some (.int .i64 a0_2) := (blk_cell BK362.out 2).trans rfl; have hcz18_3 : w17.cell? ⟨gb362, 3, none⟩ = some (.string a0_3) := (blk_cell BK362.out 3).trans rfl; have hcz18_4 : w17.cell? ⟨gb362, 4, none⟩ = some (.int .i64 a0_4) := (blk_cell BK362.out 4).trans rfl; have hcz18_5 : w17.cell? ⟨gb362, 5, none⟩ = some (.slice A0_5 l0_5.length c0_5) := (blk_cell BK362.out 5).trans rfl; have hcz18_6 : w17.cell? ⟨gb362, 6, none⟩ = some (.string a0_6) := (blk_cell BK362.out 6).trans rfl; have hfz18_0 := blk_frozen BK362.out 0; have hfz18_1 := blk_frozen BK362.out 1; have hfz18_2 := blk_frozen BK362.out 2; have hfz18_3 := blk_frozen BK362.out 3; have hfz18_4 := blk_frozen BK362.out 4; have hfz18_5 := blk_frozen BK362.out 5; have hfz18_6 := blk_frozen BK362.out 6)))
            go_ret
            exact ⟨by first | rfl | (simp [errW_none, errW_some] <;> rfl) | (simp [*, errW_none, errW_some] <;> rfl), by repeat (first | (with_reducible first | exact HB.out | apply below_alloc | apply pw_below_drewN | apply below_drew1 | refine below_set ?_ GE362.out) | exact HB.out)⟩
          · rw [if_neg c16] at H
            have c16b0 : decide (2000 < x5_2) = false := decide_eq_false c16
            clear c16
            replace H := Option.bind_eq_some_iff.mp H
            obtain ⟨t366, A190, H⟩ := H
            replace H : (some t366) = some r := H
            have A19 := Aside0.mk A190
            clear A190
            obtain rfl := Option.some.inj H
            go_wp2_with (first | (go_at_call 7; (with_reducible refine (lockagelaw15_awake.calls kj2  true _ ?side1 A11.out).mono ?_); (case side1 => exact glob_below HG_.out (by repeat (first | (with_reducible first | exact HB.out | apply below_alloc | apply pw_below_drewN | apply below_drew1 | refine below_set ?_ GE362.out) | exact HB.out))); rintro e w20 ⟨rfl, hb⟩; have n0_ := Aside0.mk (blk_below (g := gb362) (o := .cells #[.string a0_0, .string a0_1, .int .i64 a0_2, .string a0_3, .int .i64 a0_4, .slice A0_5 l0_5.length c0_5, .string a0_6] 26 (0, 0)) (by (with_reducible repeat (first | refine blk_drewN ?_ _ | refine blk_drew ?_ | refine blk_alloc ?_ _)); exact BK362.out) hb); have n1_ := Aside0.mk (below_step (by repeat (first | (with_reducible first | exact HB.out | apply below_alloc | apply pw_below_drewN | apply below_drew1 | refine below_set ?_ GE362.out) | exact HB.out)) hb); clear BK362; clear HB; have BK362 := n0_; have HB := n1_; clear n0_ n1_; (try clear hb); (try clear hb2); (try clear hk); (try clear hi); have hcz21_0 : w20.cell? ⟨gb362, 0, none⟩ = some (.string a0_0) := (blk_cell BK362.out 0).trans rfl; have hcz21_1 : w20.cell? ⟨gb362, 1, none⟩ = some (.string a0_1) := (blk_cell BK362.out 1).trans rfl; have hcz21_2 : w20.cell? ⟨gb362, 2, none⟩ = some (.int .i64 a0_2) := (blk_cell BK362.out 2).trans rfl; have hcz21_3 : w20.cell? ⟨gb362, 3, none⟩ = some (.string a0_3) := (blk_cell BK362.out 3).trans rfl; have hcz21_4 : w20.cell? ⟨gb362, 4, none⟩ = some (.int .i64 a0_4) := (blk_cell BK362.out 4).trans rfl; have hcz21_5 : w20.cell? ⟨gb362, 5, none⟩ = some (.slice A0_5 l0_5.length c0_5) := (blk_cell BK362.out 5).trans rfl; have hcz21_6 : w20.cell? ⟨gb362, 6, none⟩ = some (.string a0_6) := (blk_cell BK362.out 6).trans rfl; have hfz21_0 := blk_frozen BK362.out 0; have hfz21_1 := blk_frozen BK362.out 1; have hfz21_2 := blk_frozen BK362.out 2; have hfz21_3 := blk_frozen BK362.out 3; have hfz21_4 := blk_frozen BK362.out 4; have hfz21_5 := blk_frozen BK362.out 5; have hfz21_6 := blk_frozen BK362.out 6) | (go_at_call 8; (with_reducible refine (lockagelaw15_same.calls kj2 a0_0 a0_1 a0_2 a0_3 a0_4 _ _ l0_5 a0_6 a1 t366 _ ?side1 ?side2 ?side3 A19.out).mono ?_); (case side1 => repeat (first | exact (Kd.C_below HR0_5.out HB.out) | (with_reducible refine Kd.C_alloc ?_ _) | (with_reducible refine Kd.C_drewN ?_ _) | (with_reducible refine Kd.C_drew ?_))); (case side2 => exact HC0_5.out); (case side3 => exact glob_below HG_.out (by repeat (first | (with_reducible first | exact HB.out | apply below_alloc | apply pw_below_drewN | apply below_drew1 | refine below_set ?_ GE362.out) | exact HB.out))); rintro e w22 ⟨rfl, hb⟩; have n0_ := Aside0.mk (blk_below (g := gb362) (o := .cells #[.string a0_0, .string a0_1, .int .i64 a0_2, .string a0_3, .int .i64 a0_4, .slice A0_5 l0_5.length c0_5, .string a0_6] 26 (0, 0)) (by (with_reducible repeat (first | refine blk_drewN ?_ _ | refine blk_drew ?_ | refine blk_alloc ?_ _)); exact BK362.out) hb); have n1_ := Aside0.mk (below_step (by repeat (first | (with_reducible first | exact HB.out | apply below_alloc | apply pw_below_drewN | apply below_drew1 | refine below_set ?_ GE362.out) | exact HB.out)) hb); clear BK362; clear HB; have BK362 := n0_; have HB := n1_; clear n0_ n1_; (try clear hb); (try clear hb2); (try clear hk); (try clear hi)))
            repeat (go_quiet (first | (go_at_call 7; (with_reducible refine (lockagelaw15_awake.calls kj2  true _ ?side1 A11.out).mono ?_); (case side1 => exact glob_below HG_.out (by repeat (first | (with_reducible first | exact HB.out | apply below_alloc | apply pw_below_drewN | apply below_drew1 | refine below_set ?_ GE362.out) | exact HB.out))); rintro e w20 ⟨rfl, hb⟩; have n0_ := Aside0.mk (blk_below (g := gb362) (o := .cells #[.string a0_0, .string a0_1, .int .i64 a0_2, .string a0_3, .int .i64 a0_4, .slice A0_5 l0_5.length c0_5, .string a0_6] 26 (0, 0)) (by (with_reducible repeat (first | refine blk_drewN ?_ _ | refine blk_drew ?_ | refine blk_alloc ?_ _)); exact BK362.out) hb); have n1_ := Aside0.mk (below_step (by repeat (first | (with_reducible first | exact HB.out | apply below_alloc | apply pw_below_drewN | apply below_drew1 | refine below_set ?_ GE362.out) | exact HB.out)) hb); clear BK362; clear HB; have BK362 := n0_; have HB := n1_; clear n0_ n1_; (try clear hb); (try clear hb2); (try clear hk); (try clear hi); have hcz21_0 : w20.cell? ⟨gb362, 0, none⟩ = some (.string a0_0) := (blk_cell BK362.out 0).trans rfl; have hcz21_1 : w20.cell? ⟨gb362, 1, none⟩ = some (.string a0_1) := (blk_cell BK362.out 1).trans rfl; have hcz21_2 : w20.cell? ⟨gb362, 2, none⟩ = some (.int .i64 a0_2) := (blk_cell BK362.out 2).trans rfl; have hcz21_3 : w20.cell? ⟨gb362, 3, none⟩ = some (.string a0_3) := (blk_cell BK362.out 3).trans rfl; have hcz21_4 : w20.cell? ⟨gb362, 4, none⟩ = some (.int .i64 a0_4) := (blk_cell BK362.out 4).trans rfl; have hcz21_5 : w20.cell? ⟨gb362, 5, none⟩ = some (.slice A0_5 l0_5.length c0_5) := (blk_cell BK362.out 5).trans rfl; have hcz21_6 : w20.cell? ⟨gb362, 6, none⟩ = some (.string a0_6) := (blk_cell BK362.out 6).trans rfl; have hfz21_0 := blk_frozen BK362.out 0; have hfz21_1 := blk_frozen BK362.out 1; have hfz21_2 := blk_frozen BK362.out 2; have hfz21_3 := blk_frozen BK362.out 3; have hfz21_4 := blk_frozen BK362.out 4; have hfz21_5 := blk_frozen BK362.out 5; have hfz21_6 := blk_frozen BK362.out 6) | (go_at_call 8; (with_reducible refine (lockagelaw15_same.calls kj2 a0_0 a0_1 a0_2 a0_3 a0_4 _ _ l0_5 a0_6 a1 t366 _ ?side1 ?side2 ?side3 A19.out).mono ?_); (case side1 => repeat (first | exact (Kd.C_below HR0_5.out HB.out) | (with_reducible refine Kd.C_alloc ?_ _) | (with_reducible refine Kd.C_drewN ?_ _) | (with_reducible refine Kd.C_drew ?_))); (case side2 => exact HC0_5.out); (case side3 => exact glob_below HG_.out (by repeat (first | (with_reducible first | exact HB.out | apply below_alloc | apply pw_below_drewN | apply below_drew1 | refine below_set ?_ GE362.out) | exact HB.out))); rintro e w22 ⟨rfl, hb⟩; have n0_ := Aside0.mk (blk_below (g := gb362) (o := .cells #[.string a0_0, .string a0_1, .int .i64 a0_2, .string a0_3, .int .i64 a0_4, .slice A0_5 l0_5.length c0_5, .string a0_6] 26 (0, 0)) (by (with_reducible repeat (first | refine blk_drewN ?_ _ | refine blk_drew ?_ | refine blk_alloc ?_ _)); exact BK362.out) hb); have n1_ := Aside0.mk (below_step (by repeat (first | (with_reducible first | exact HB.out | apply below_alloc | apply pw_below_drewN | apply below_drew1 | refine below_set ?_ GE362.out) | exact HB.out)) hb); clear BK362; clear HB; have BK362 := n0_; have HB := n1_; clear n0_ n1_; (try clear hb); (try clear hb2); (try clear hk); (try clear hi))); try go_wp2_with (first | (go_at_call 7; (with_reducible refine (lockagelaw15_awake.calls kj2  true _ ?side1 A11.out).mono ?_); (case side1 => exact glob_below HG_.out (by repeat (first | (with_reducible first | exact HB.out | apply below_alloc | apply pw_below_drewN | apply below_drew1 | refine below_set ?_ GE362.out) | exact HB.out))); rintro e w20 ⟨rfl, hb⟩; have n0_ := Aside0.mk (blk_below (g := gb362) (o := .cells #[.string a0_0, .string a0_1, .int .i64 a0_2, .string a0_3, .int .i64 a0_4, .slice A0_5 l0_5.length c0_5, .string a0_6] 26 (0, 0)) (by (with_reducible repeat (first | refine blk_drewN ?_ _ | refine blk_drew ?_ | refine blk_alloc ?_ _)); exact BK362.out) hb); have n1_ := Aside0.mk (below_step (by repeat (first | (with_reducible first | exact HB.out | apply below_alloc | apply pw_below_drewN | apply below_drew1 | refine below_set ?_ GE362.out) | exact HB.out)) hb); clear BK362; clear HB; have BK362 := n0_; have HB := n1_; clear n0_ n1_; (try clear hb); (try clear hb2); (try clear hk); (try clear hi); have hcz21_0 : w20.cell? ⟨gb362, 0, none⟩ = some (.string a0_0) := (blk_cell BK362.out 0).trans rfl; have hcz21_1 : w20.cell? ⟨gb362, 1, none⟩ = some (.string a0_1) := (blk_cell BK362.out 1).trans rfl; have hcz21_2 : w20.cell? ⟨gb362, 2, none⟩ = some (.int .i64 a0_2) := (blk_cell BK362.out 2).trans rfl; have hcz21_3 : w20.cell? ⟨gb362, 3, none⟩ = some (.string a0_3) := (blk_cell BK362.out 3).trans rfl; have hcz21_4 : w20.cell? ⟨gb362, 4, none⟩ = some (.int .i64 a0_4) := (blk_cell BK362.out 4).trans rfl; have hcz21_5 : w20.cell? ⟨gb362, 5, none⟩ = some (.slice A0_5 l0_5.length c0_5) := (blk_cell BK362.out 5).trans rfl; have hcz21_6 : w20.cell? ⟨gb362, 6, none⟩ = some (.string a0_6) := (blk_cell BK362.out 6).trans rfl; have hfz21_0 := blk_frozen BK362.out 0; have hfz21_1 := blk_frozen BK362.out 1; have hfz21_2 := blk_frozen BK362.out 2; have hfz21_3 := blk_frozen BK362.out 3; have hfz21_4 := blk_frozen BK362.out 4; have hfz21_5 := blk_frozen BK362.out 5; have hfz21_6 := blk_frozen BK362.out 6) | (go_at_call 8; (with_reducible refine (lockagelaw15_same.calls kj2 a0_0 a0_1 a0_2 a0_3 a0_4 _ _ l0_5 a0_6 a1 t366 _ ?side1 ?side2 ?side3 A19.out).mono ?_); (case side1 => repeat (first | exact (Kd.C_below HR0_5.out HB.out) | (with_reducible refine Kd.C_alloc ?_ _) | (with_reducible refine Kd.C_drewN ?_ _) | (with_reducible refine Kd.C_drew ?_))); (case side2 => exact HC0_5.out); (case side3 => exact glob_below HG_.out (by repeat (first | (with_reducible first | exact HB.out | apply below_alloc | apply pw_below_drewN | apply below_drew1 | refine below_set ?_ GE362.out) | exact HB.out))); rintro e w22 ⟨rfl, hb⟩; have n0_ := Aside0.mk (blk_below (g := gb362) (o := .cells #[.string a0_0, .string a0_1, .int .i64 a0_2, .string a0_3, .int .i64 a0_4, .slice A0_5 l0_5.length c0_5, .string a0_6] 26 (0, 0)) (by (with_reducible repeat (first | refine blk_drewN ?_ _ | refine blk_drew ?_ | refine blk_alloc ?_ _)); exact BK362.out) hb); have n1_ := Aside0.mk (below_step (by repeat (first | (with_reducible first | exact HB.out | apply below_alloc | apply pw_below_drewN | apply below_drew1 | refine below_set ?_ GE362.out) | exact HB.out)) hb); clear BK362; clear HB; have BK362 := n0_; have HB := n1_; clear n0_ n1_; (try clear hb); (try clear hb2); (try clear hk); (try clear hi))))
            go_ret
            exact ⟨by first | rfl | (simp [errW_none, errW_some] <;> rfl) | (simp [*, errW_none, errW_some] <;> rfl), by repeat (first | (with_reducible first | exact HB.out | apply below_alloc | apply pw_below_drewN | apply below_drew1 | refine below_set ?_ GE362.out) | exact HB.out)⟩
      · replace c12 := Bool.eq_false_iff.mpr c12
        subst c12
        have H1 : (none) = some r := by rw [if_neg (show ¬ (false = true) by decide)] at H; exact H
        clear H
        have H := H1
        clear H1
        exact absurd H (by simp)

-- BY HAND: function 9 (lockagelaw06_Made)

/-! ### lockagelaw15_ForwardMade: function 4 -/
mutual
def lockagelaw15_ForwardMade.j0 : Nat → List Int → Int → ByteArray → Int → Option (Bool)
  | 0, _, _, _, _ => none
  | k + 1, x0, x1, x2, x3 => lockagelaw15_ForwardMade.l0 k x0 x1 x2 x3 (⟨#[]⟩ : ByteArray) 0
def lockagelaw15_ForwardMade.l0 : Nat → List Int → Int → ByteArray → Int → ByteArray → Int → Option (Bool)
  | 0, _, _, _, _, _, _ => none
  | k + 1, x0, x1, x2, x3, x9, x10 => if x10 < (wrap64 (185 + (Int.tmod (wrap64 (x3)) 16))) then (if x9.size + 1 ≤ 9223372036854775807 then (lockagelaw15_ForwardMade.l0 k x0 x1 x2 x3 (x9 ++ (⟨#[112]⟩ : ByteArray)) (wrap64 (x10 + 1))) else (none)) else ((some (([false, true] : List Bool) : List Bool)).bind fun y367 => (lockagelaw15_ForwardMade.l1 k x0 x1 x2 x9 y367 (y367.length : Int) 0))
def lockagelaw15_ForwardMade.l1 : Nat → List Int → Int → ByteArray → ByteArray → List Bool → Int → Int → Option (Bool)
  | 0, _, _, _, _, _, _, _ => none
  | k + 1, x0, x1, x2, x9, x29, x30, x31 => if x31 < x30 then (if 0 ≤ x31 then (if x31 < (x29.length : Int) then ((lockagelaw06_Made.f k x0 (rdOf false x29 x31)).bind fun bt372 => ((lockagelaw15_same.f k bt372.1 bt372.2.1 bt372.2.2.1 bt372.2.2.2.1 bt372.2.2.2.2.1 bt372.2.2.2.2.2 x2 (wrap64 (x1))).bind fun t381 => (if t381 = true then ((some (([(⟨(⟨#[120, 45, 102, 111, 114, 119, 97, 114, 100, 101, 100, 45, 102, 111, 114]⟩ : ByteArray), x2⟩ : S28), (⟨(⟨#[88, 45, 70, 111, 114, 119, 97, 114, 100, 101, 100, 45, 70, 111, 114]⟩ : ByteArray), (⟨#[113]⟩ : ByteArray)⟩ : S28), (⟨(⟨#[88, 45, 70, 79, 82, 87, 65, 82, 68, 69, 68, 45, 70, 79, 82]⟩ : ByteArray), x9⟩ : S28)] : List (S28)) : List (S28))).bind fun y382 => (if bt372.2.2.2.2.2.length + y382.length < 4398046511104 then ((lockagelaw15_same.f k bt372.1 bt372.2.1 bt372.2.2.1 bt372.2.2.2.1 bt372.2.2.2.2.1 (bt372.2.2.2.2.2 ++ y382) (⟨#[]⟩ : ByteArray) (wrap64 (x1))).bind fun t388 => (if t388 = true then (lockagelaw15_ForwardMade.l1 k x0 x1 x2 x9 x29 x30 (wrap64 (x31 + 1))) else (none))) else (none))) else (none)))) else (none)) else (none)) else ((lockagelaw15_awake.f k).bind fun t370 => (some t370))
end
def lockagelaw15_ForwardMade.f (k : Nat) (l0 : List Int) (a1 : Int) (a2 : ByteArray) (a3 : Int) : Option (Bool) := if (a2.size : Int) > 300 then (if 0 ≤ 300 then (if 300 ≤ (a2.size : Int) then (lockagelaw15_ForwardMade.j0 k l0 a1 (a2.extract 0 300) a3) else (none)) else (none)) else (lockagelaw15_ForwardMade.j0 k l0 a1 a2 a3)
theorem lockagelaw15_ForwardMade.mono_l : ∀ k, (∀ y0 y1 y2 y3, LeO (lockagelaw15_ForwardMade.j0 k y0 y1 y2 y3) (lockagelaw15_ForwardMade.j0 (k + 1) y0 y1 y2 y3)) ∧ (∀ y0 y1 y2 y3 y4 y5, LeO (lockagelaw15_ForwardMade.l0 k y0 y1 y2 y3 y4 y5) (lockagelaw15_ForwardMade.l0 (k + 1) y0 y1 y2 y3 y4 y5)) ∧ (∀ y0 y1 y2 y3 y4 y5 y6, LeO (lockagelaw15_ForwardMade.l1 k y0 y1 y2 y3 y4 y5 y6) (lockagelaw15_ForwardMade.l1 (k + 1) y0 y1 y2 y3 y4 y5 y6))
  | 0 => ⟨fun _ _ _ _ r h => by simp [lockagelaw15_ForwardMade.j0] at h, fun _ _ _ _ _ _ r h => by simp [lockagelaw15_ForwardMade.l0] at h, fun _ _ _ _ _ _ _ r h => by simp [lockagelaw15_ForwardMade.l1] at h⟩
  | k + 1 => by
    obtain ⟨ih0, ih1, ih2⟩ := lockagelaw15_ForwardMade.mono_l k
    refine ⟨?_, ?_, ?_⟩
    · intro y0 y1 y2 y3
      unfold lockagelaw15_ForwardMade.j0
      repeat' first
      | (with_reducible exact ih0 _ _ _ _)
      | (with_reducible exact ih1 _ _ _ _ _ _)
      | (with_reducible exact ih2 _ _ _ _ _ _ _)
      | (with_reducible exact lockagelaw06_Made.mono _ _ _)
      | (with_reducible exact lockagelaw15_awake.mono _)
      | (with_reducible exact lockagelaw15_same.mono _ _ _ _ _ _ _ _ _)
      | (with_reducible exact LeO.refl _)
      | (with_reducible exact LeO.none _)
      | (with_reducible refine LeO.ite ?_ ?_)
      | (with_reducible refine LeO.bind ?_ (fun _ => ?_))
      | exact ih0 _ _ _ _
      | exact ih1 _ _ _ _ _ _
      | exact ih2 _ _ _ _ _ _ _
      | exact lockagelaw06_Made.mono _ _ _
      | exact lockagelaw15_awake.mono _
      | exact lockagelaw15_same.mono _ _ _ _ _ _ _ _ _
      | exact LeO.none _
      | refine LeO.ite ?_ ?_
      | refine LeO.bind ?_ (fun _ => ?_)
    · intro y0 y1 y2 y3 y4 y5
      unfold lockagelaw15_ForwardMade.l0
      repeat' first
      | (with_reducible exact ih0 _ _ _ _)
      | (with_reducible exact ih1 _ _ _ _ _ _)
      | (with_reducible exact ih2 _ _ _ _ _ _ _)
      | (with_reducible exact lockagelaw06_Made.mono _ _ _)
      | (with_reducible exact lockagelaw15_awake.mono _)
      | (with_reducible exact lockagelaw15_same.mono _ _ _ _ _ _ _ _ _)
      | (with_reducible exact LeO.refl _)
      | (with_reducible exact LeO.none _)
      | (with_reducible refine LeO.ite ?_ ?_)
      | (with_reducible refine LeO.bind ?_ (fun _ => ?_))
      | exact ih0 _ _ _ _
      | exact ih1 _ _ _ _ _ _
      | exact ih2 _ _ _ _ _ _ _
      | exact lockagelaw06_Made.mono _ _ _
      | exact lockagelaw15_awake.mono _
      | exact lockagelaw15_same.mono _ _ _ _ _ _ _ _ _
      | exact LeO.none _
      | refine LeO.ite ?_ ?_
      | refine LeO.bind ?_ (fun _ => ?_)
    · intro y0 y1 y2 y3 y4 y5 y6
      unfold lockagelaw15_ForwardMade.l1
      repeat' first
      | (with_reducible exact ih0 _ _ _ _)
      | (with_reducible exact ih1 _ _ _ _ _ _)
      | (with_reducible exact ih2 _ _ _ _ _ _ _)
      | (with_reducible exact lockagelaw06_Made.mono _ _ _)
      | (with_reducible exact lockagelaw15_awake.mono _)
      | (with_reducible exact lockagelaw15_same.mono _ _ _ _ _ _ _ _ _)
      | (with_reducible exact LeO.refl _)
      | (with_reducible exact LeO.none _)
      | (with_reducible refine LeO.ite ?_ ?_)
      | (with_reducible refine LeO.bind ?_ (fun _ => ?_))
      | exact ih0 _ _ _ _
      | exact ih1 _ _ _ _ _ _
      | exact ih2 _ _ _ _ _ _ _
      | exact lockagelaw06_Made.mono _ _ _
      | exact lockagelaw15_awake.mono _
      | exact lockagelaw15_same.mono _ _ _ _ _ _ _ _ _
      | exact LeO.none _
      | refine LeO.ite ?_ ?_
      | refine LeO.bind ?_ (fun _ => ?_)
theorem lockagelaw15_ForwardMade.mono : ∀ a0 a1 a2 a3 k, LeO (lockagelaw15_ForwardMade.f k a0 a1 a2 a3) (lockagelaw15_ForwardMade.f (k + 1) a0 a1 a2 a3) := by
  intro a0 a1 a2 a3 k
  obtain ⟨ih0, ih1, ih2⟩ := lockagelaw15_ForwardMade.mono_l k
  unfold lockagelaw15_ForwardMade.f
  repeat' first
      | (with_reducible exact ih0 _ _ _ _)
      | (with_reducible exact ih1 _ _ _ _ _ _)
      | (with_reducible exact ih2 _ _ _ _ _ _ _)
      | (with_reducible exact lockagelaw06_Made.mono _ _ _)
      | (with_reducible exact lockagelaw15_awake.mono _)
      | (with_reducible exact lockagelaw15_same.mono _ _ _ _ _ _ _ _ _)
      | (with_reducible exact LeO.refl _)
      | (with_reducible exact LeO.none _)
      | (with_reducible refine LeO.ite ?_ ?_)
      | (with_reducible refine LeO.bind ?_ (fun _ => ?_))
      | exact ih0 _ _ _ _
      | exact ih1 _ _ _ _ _ _
      | exact ih2 _ _ _ _ _ _ _
      | exact lockagelaw06_Made.mono _ _ _
      | exact lockagelaw15_awake.mono _
      | exact lockagelaw15_same.mono _ _ _ _ _ _ _ _ _
      | exact LeO.none _
      | refine LeO.ite ?_ ?_
      | refine LeO.bind ?_ (fun _ => ?_)
set_option maxHeartbeats 8000000 in
set_option maxRecDepth 100000 in
theorem lockagelaw15_ForwardMade.calls (k : Nat) (A0 : Option Addr) (c0 : Nat) (l0 : List Int) (a1 : Int) (a2 : ByteArray) (a3 : Int) (r : Bool) (w : World) (hr0 : Kd.C (Kd.int .u8) w A0 l0.length l0) (hc0 : l0.length ≤ c0) (hG_ : H.GlobOk w) (h : lockagelaw15_ForwardMade.f k l0 a1 a2 a3 = some r) :
    Calls Tryd.prog 4 #[.slice A0 l0.length c0, .int .u8 a1, .string a2, .int .u8 a3] w fun e w' => e = .returned (.bool r) ∧ Below w.heap.size w w' := by
  have HG_ := Aside0.mk hG_
  clear hG_
  have hu24 := Tryd.underlying24
  have hu26 := Tryd.underlying26
  have hu28 := Tryd.underlying28
  have HR0 := Aside0.mk hr0
  have HC0 := Aside0.mk hc0
  clear hr0 hc0
  have HB := Aside0.mk (Below.refl w.heap.size w)
  have H : (if (a2.size : Int) > 300 then (if 0 ≤ 300 then (if 300 ≤ (a2.size : Int) then (lockagelaw15_ForwardMade.j0 k l0 a1 (a2.extract 0 300) a3) else (none)) else (none)) else (lockagelaw15_ForwardMade.j0 k l0 a1 a2 a3)) = some r := h
  clear h
  have HC5 := Aside0.mk H
  clear H
  go_enter Tryd.func4, Tryd.ntmps4
  go_upto_if 16 with (fail)
  go_cut [2] (fun v2 wc => ∃ (kq : Nat) (x2_4 : ByteArray), v2 = .string x2_4 ∧ Aside0 (lockagelaw15_ForwardMade.j0 kq l0 a1 x2_4 a3 = some r) ∧ Aside0 (kq ≤ k) ∧ Aside0 (Below w.heap.size w wc))
  case first =>
    have H := HC5.out
    clear HC5
    by_cases c6 : (a2.size : Int) > 300
    · rw [if_pos c6] at H
      have c6b0 : decide (300 < (a2.size : Int)) = true := decide_eq_true c6
      have c6b1 : decide (300 < a2.size) = true := decide_eq_true (by omega)
      clear c6
      (first | rw [c6b0] | (simp only [i64_w, i32_w]; rw [c6b0]) | skip)
      by_cases c7 : 0 ≤ 300
      · rw [if_pos c7] at H
        have c7b0 := eq_true c7
        have c7b1 : decide (0 ≤ 300) = true := decide_eq_true c7
        clear c7
        by_cases c8 : 300 ≤ (a2.size : Int)
        · rw [if_pos c8] at H
          have c8b0 := eq_true c8
          have c8b1 : decide (300 ≤ (a2.size : Int)) = true := decide_eq_true c8
          clear c8
          have H' := Aside0.mk H
          clear H
          go_wp2
          go_meet
          case rel => exact ⟨_, (a2.extract 0 300), (by first | rfl | (simp; done) | (simp [*]; done)), H', ⟨by first | omega | exact Nat.le_refl _⟩, ⟨by repeat (first | (with_reducible first | exact HB.out | apply below_alloc | apply pw_below_drewN | apply below_drew1) | exact HB.out)⟩⟩
        · rw [if_neg c8] at H
          exact absurd H (by simp)
      · rw [if_neg c7] at H
        exact absurd H (by simp)
    · rw [if_neg c6] at H
      have c6b0 : decide (300 < (a2.size : Int)) = false := decide_eq_false c6
      have c6b1 : decide (300 < a2.size) = false := decide_eq_false (by omega)
      clear c6
      (first | rw [c6b0] | (simp only [i64_w, i32_w]; rw [c6b0]) | skip)
      have H' := Aside0.mk H
      clear H
      go_wp2
      go_meet
      case rel => exact ⟨_, (a2), (by first | rfl | (simp; done) | (simp [*]; done)), H', ⟨by first | omega | exact Nat.le_refl _⟩, ⟨by repeat (first | (with_reducible first | exact HB.out | apply below_alloc | apply pw_below_drewN | apply below_drew1) | exact HB.out)⟩⟩
  case rest =>
    clear HC5
    try clear p2
    try clear c4
    try clear c6
    try clear c6b0
    try clear c6b1
    try clear c7
    try clear c7b0
    try clear c7b1
    try clear c8
    try clear c8b0
    try clear c8b1
    obtain ⟨kq, x2_4, rfl, HA, HJ4, HB⟩ := hcut
    cases kq with
    | zero => exact absurd HA.out (by simp [lockagelaw15_ForwardMade.j0])
    | succ kj4 =>
      have H := HA.out
      clear HA
      simp only [lockagelaw15_ForwardMade.j0] at H
      have H' := Aside0.mk H
      clear H
      go_wp2
      go_loopg [9, 10] kj4 (fun kq v9 v10 w' => ∃ (x9_2 : ByteArray) (x10_2 : Int), v9 = .string x9_2 ∧ v10 = .int .i64 x10_2 ∧ Aside0 (lockagelaw15_ForwardMade.l0 kq l0 a1 x2_4 a3 x9_2 x10_2 = some r) ∧ Aside0 (kq ≤ kj4) ∧ Aside0 (Below w.heap.size w w'))
      case atStart => exact ⟨((⟨#[]⟩ : ByteArray)), (0), (by first | rfl | (simp; done) | (simp [*]; done)), (by first | rfl | (simp; done) | (simp [*]; done)), H', ⟨Nat.le_refl _⟩, ⟨by repeat (first | (with_reducible first | exact HB.out | apply below_alloc | apply pw_below_drewN | apply below_drew1) | exact HB.out)⟩⟩
      case round =>
        clear H'
        try clear p2
        try clear c4
        try clear c6
        try clear c6b0
        try clear c6b1
        try clear c7
        try clear c7b0
        try clear c7b1
        try clear c8
        try clear c8b0
        try clear c8b1
        try clear p2
        obtain ⟨x9_2, x10_2, rfl, rfl, HA, HK2, HB⟩ := hrel
        cases gk with
        | zero => exact absurd HA.out (by simp [lockagelaw15_ForwardMade.l0])
        | succ k2 =>
          have H := HA.out
          clear HA
          simp only [lockagelaw15_ForwardMade.l0] at H
          by_cases c9 : x10_2 < (wrap64 (185 + (Int.tmod (wrap64 (a3)) 16)))
          · rw [if_pos c9] at H
            have c9b0 : decide (x10_2 < (wrap64 (185 + (Int.tmod (wrap64 (a3)) 16)))) = true := decide_eq_true c9
            clear c9
            by_cases c10 : x9_2.size + 1 ≤ 9223372036854775807
            · rw [if_pos c10] at H
              have c10b0 := eq_true c10
              have c10b1 : decide (x9_2.size + 1 ≤ 9223372036854775807) = true := decide_eq_true c10
              try have c10b2 : (9223372036854775807 < x9_2.size + 1) = False := eq_false (Nat.not_lt.2 c10)
              have H' := Aside0.mk H
              clear H
              go_wp2
              go_roundg k2
              case measure => have := HJ4.out; have := HK2.out; omega
              case rel => exact ⟨(x9_2 ++ (⟨#[112]⟩ : ByteArray)), (wrap64 (x10_2 + 1)), (by first | rfl | (simp; done) | (simp [*]; done)), (by first | rfl | (simp; done) | (simp [*]; done)), H', ⟨by have := HJ4.out; have := HK2.out; omega⟩, ⟨by repeat (first | (with_reducible first | exact HB.out | apply below_alloc | apply pw_below_drewN | apply below_drew1) | exact HB.out)⟩⟩
            · rw [if_neg c10] at H
              exact absurd H (by simp)
          · rw [if_neg c9] at H
            have c9b0 : decide (x10_2 < (wrap64 (185 + (Int.tmod (wrap64 (a3)) 16)))) = false := decide_eq_false c9
            clear c9
            obtain ⟨y367, hy367⟩ : ∃ y_ : List Bool, y_ = (([false, true] : List Bool)) := ⟨_, rfl⟩
            replace H : (lockagelaw15_ForwardMade.l1 k2 l0 a1 x2_4 x9_2 y367 (y367.length : Int) 0) = some r := by first | (rw [hy367]; with_reducible exact H) | (have H2_ := (Option.bind_some _ _).symm.trans H; rw [hy367]; with_reducible exact H2_) | (have H2_ := (Option.bind_some _ _).symm.trans H; with_reducible exact H2_) | with_reducible exact H | (rw [hy367]; exact H) | exact H
            have Ny367 := Aside0.mk hy367
            clear hy367
            have H' := Aside0.mk H
            clear H
            go_wp2_with (first | ((with_reducible refine gate_dst (N := 29) rfl ?_); refine Kd.R_lit Kd.bool _ 4 ?hg (N := 29) ?hd (xs := ([false, true] : List Bool)) (inner := [.bool false, .bool true]) (ok := fun _ => True) (okp := fun _ => True) ?hr ?hp (fun _ hk => hk) trivial (Below.refl _ _) (Nat.le_refl _) (by simp) ?_; (case hd => rfl); (case hg => rfl); (case hr => first | (go_simp; done) | (go_simp; rfl)); (case hp => exact (Reps.one (show Kd.M Kd.bool _ _ _ false [.bool false] from rfl) (Reps.one (show Kd.M Kd.bool _ _ _ true [.bool true] from rfl) (Reps.none _ _)))); intro v368 w11 ho12 hb hg_ hnew_; clear hg_ hnew_; (first | rw [← Ny367.out] at ho12 | (simp only [Int.reduceToNat] at ho12; rw [← Ny367.out] at ho12)); have n0_ := Aside0.mk (Kd.R_lower ho12 (below_size (by repeat (first | (with_reducible first | exact HB.out | apply below_alloc | apply pw_below_drewN | apply below_drew1) | exact HB.out)))); have n1_ := Aside0.mk (below_step (by repeat (first | (with_reducible first | exact HB.out | apply below_alloc | apply pw_below_drewN | apply below_drew1) | exact HB.out)) hb); clear HB; have HO369 := n0_; have HB := n1_; clear n0_ n1_; clear hb ho12; obtain ⟨Ao13, co13, eo13⟩ := Kd.R_slice HO369.out; subst eo13))
            go_loopg [31] k2 (fun kq v31 w' => ∃ (x31_3 : Int), v31 = .int .i64 x31_3 ∧ Aside0 (lockagelaw15_ForwardMade.l1 kq l0 a1 x2_4 x9_2 y367 (y367.length : Int) x31_3 = some r) ∧ Aside0 (kq ≤ k2) ∧ Aside0 (Kd.R Kd.bool 4 w' w.heap.size (fun _ => True) (.slice Ao13 y367.length co13) y367) ∧ Aside0 (Below w.heap.size w w'))
            case atStart => exact ⟨(0), (by first | rfl | (simp; done) | (simp [*]; done)), H', ⟨Nat.le_refl _⟩, ⟨by (with_reducible repeat (first | apply Kd.R_alloc | apply Kd.R_drewN | apply Kd.R_drew)); exact HO369.out⟩, ⟨by repeat (first | (with_reducible first | exact HB.out | apply below_alloc | apply pw_below_drewN | apply below_drew1) | exact HB.out)⟩⟩
            case round =>
              clear H'
              try clear c1
              try clear p2
              try clear c4
              try clear c6
              try clear c6b0
              try clear c6b1
              try clear p6
              try clear c7
              try clear c7b0
              try clear c7b1
              try clear c8
              try clear c8b0
              try clear c8b1
              try clear c9
              try clear c9b0
              try clear c10
              try clear c10b0
              try clear c10b1
              try clear c10b2
              try clear p2
              obtain ⟨x31_3, rfl, HA, HK3, HO_29, HB⟩ := hrel
              cases gk with
              | zero => exact absurd HA.out (by simp [lockagelaw15_ForwardMade.l1])
              | succ k3 =>
                have H := HA.out
                clear HA
                simp only [lockagelaw15_ForwardMade.l1] at H
                by_cases c14 : x31_3 < (y367.length : Int)
                · rw [if_pos c14] at H
                  have c14b0 : decide (x31_3 < (y367.length : Int)) = true := decide_eq_true c14
                  clear c14
                  by_cases c15 : 0 ≤ x31_3
                  · rw [if_pos c15] at H
                    have c15b0 : decide (0 ≤ x31_3) = true := decide_eq_true c15
                    clear c15
                    by_cases c16 : x31_3 < (y367.length : Int)
                    · rw [if_pos c16] at H
                      have c16b0 : decide (x31_3 < (y367.length : Int)) = true := decide_eq_true c16
                      clear c16
                      replace H := Option.bind_eq_some_iff.mp H
                      obtain ⟨⟨t372, t373, t374, t375, t376, t377⟩, A170, H⟩ := H
                      replace H : ((lockagelaw15_same.f k3 t372 t373 t374 t375 t376 t377 x2_4 (wrap64 (a1))).bind fun t381 => (if t381 = true then ((some (([(⟨(⟨#[120, 45, 102, 111, 114, 119, 97, 114, 100, 101, 100, 45, 102, 111, 114]⟩ : ByteArray), x2_4⟩ : S28), (⟨(⟨#[88, 45, 70, 111, 114, 119, 97, 114, 100, 101, 100, 45, 70, 111, 114]⟩ : ByteArray), (⟨#[113]⟩ : ByteArray)⟩ : S28), (⟨(⟨#[88, 45, 70, 79, 82, 87, 65, 82, 68, 69, 68, 45, 70, 79, 82]⟩ : ByteArray), x9_2⟩ : S28)] : List (S28)) : List (S28))).bind fun y382 => (if t377.length + y382.length < 4398046511104 then ((lockagelaw15_same.f k3 t372 t373 t374 t375 t376 (t377 ++ y382) (⟨#[]⟩ : ByteArray) (wrap64 (a1))).bind fun t388 => (if t388 = true then (lockagelaw15_ForwardMade.l1 k3 l0 a1 x2_4 x9_2 y367 (y367.length : Int) (wrap64 (x31_3 + 1))) else (none))) else (none))) else (none))) = some r := H
                      have A17 := Aside0.mk A170
                      clear A170
                      replace H := Option.bind_eq_some_iff.mp H
                      obtain ⟨t381, A180, H⟩ := H
                      replace H : (if t381 = true then ((some (([(⟨(⟨#[120, 45, 102, 111, 114, 119, 97, 114, 100, 101, 100, 45, 102, 111, 114]⟩ : ByteArray), x2_4⟩ : S28), (⟨(⟨#[88, 45, 70, 111, 114, 119, 97, 114, 100, 101, 100, 45, 70, 111, 114]⟩ : ByteArray), (⟨#[113]⟩ : ByteArray)⟩ : S28), (⟨(⟨#[88, 45, 70, 79, 82, 87, 65, 82, 68, 69, 68, 45, 70, 79, 82]⟩ : ByteArray), x9_2⟩ : S28)] : List (S28)) : List (S28))).bind fun y382 => (if t377.length + y382.length < 4398046511104 then ((lockagelaw15_same.f k3 t372 t373 t374 t375 t376 (t377 ++ y382) (⟨#[]⟩ : ByteArray) (wrap64 (a1))).bind fun t388 => (if t388 = true then (lockagelaw15_ForwardMade.l1 k3 l0 a1 x2_4 x9_2 y367 (y367.length : Int) (wrap64 (x31_3 + 1))) else (none))) else (none))) else (none)) = some r := H
                      have A18 := Aside0.mk A180
                      clear A180
                      by_cases c19 : t381 = true
                      · subst c19
                        have H1 : ((some (([(⟨(⟨#[120, 45, 102, 111, 114, 119, 97, 114, 100, 101, 100, 45, 102, 111, 114]⟩ : ByteArray), x2_4⟩ : S28), (⟨(⟨#[88, 45, 70, 111, 114, 119, 97, 114, 100, 101, 100, 45, 70, 111, 114]⟩ : ByteArray), (⟨#[113]⟩ : ByteArray)⟩ : S28), (⟨(⟨#[88, 45, 70, 79, 82, 87, 65, 82, 68, 69, 68, 45, 70, 79, 82]⟩ : ByteArray), x9_2⟩ : S28)] : List (S28)) : List (S28))).bind fun y382 => (if t377.length + y382.length < 4398046511104 then ((lockagelaw15_same.f k3 t372 t373 t374 t375 t376 (t377 ++ y382) (⟨#[]⟩ : ByteArray) (wrap64 (a1))).bind fun t388 => (if t388 = true then (lockagelaw15_ForwardMade.l1 k3 l0 a1 x2_4 x9_2 y367 (y367.length : Int) (wrap64 (x31_3 + 1))) else (none))) else (none))) = some r := by rw [if_pos rfl] at H; exact H
                        clear H
                        have H := H1
                        clear H1
                        obtain ⟨y382, hy382⟩ : ∃ y_ : List (S28), y_ = (([(⟨(⟨#[120, 45, 102, 111, 114, 119, 97, 114, 100, 101, 100, 45, 102, 111, 114]⟩ : ByteArray), x2_4⟩ : S28), (⟨(⟨#[88, 45, 70, 111, 114, 119, 97, 114, 100, 101, 100, 45, 70, 111, 114]⟩ : ByteArray), (⟨#[113]⟩ : ByteArray)⟩ : S28), (⟨(⟨#[88, 45, 70, 79, 82, 87, 65, 82, 68, 69, 68, 45, 70, 79, 82]⟩ : ByteArray), x9_2⟩ : S28)] : List (S28))) := ⟨_, rfl⟩
                        replace H : (if t377.length + y382.length < 4398046511104 then ((lockagelaw15_same.f k3 t372 t373 t374 t375 t376 (t377 ++ y382) (⟨#[]⟩ : ByteArray) (wrap64 (a1))).bind fun t388 => (if t388 = true then (lockagelaw15_ForwardMade.l1 k3 l0 a1 x2_4 x9_2 y367 (y367.length : Int) (wrap64 (x31_3 + 1))) else (none))) else (none)) = some r := by first | (rw [hy382]; with_reducible exact H) | (have H2_ := (Option.bind_some _ _).symm.trans H; rw [hy382]; with_reducible exact H2_) | (have H2_ := (Option.bind_some _ _).symm.trans H; with_reducible exact H2_) | with_reducible exact H | (rw [hy382]; exact H) | exact H
                        have Ny382 := Aside0.mk hy382
                        clear hy382
                        by_cases c20 : t377.length + y382.length < 4398046511104
                        · rw [if_pos c20] at H
                          have LMc20 := Aside0.mk c20
                          clear c20
                          obtain ⟨y385, hy385⟩ : ∃ y_ : List (S28), y_ = (t377 ++ y382) := ⟨_, rfl⟩
                          replace H : ((lockagelaw15_same.f k3 t372 t373 t374 t375 t376 y385 (⟨#[]⟩ : ByteArray) (wrap64 (a1))).bind fun t388 => (if t388 = true then (lockagelaw15_ForwardMade.l1 k3 l0 a1 x2_4 x9_2 y367 (y367.length : Int) (wrap64 (x31_3 + 1))) else (none))) = some r := by first | (rw [hy385]; with_reducible exact H) | (have H2_ := (Option.bind_some _ _).symm.trans H; rw [hy385]; with_reducible exact H2_) | (have H2_ := (Option.bind_some _ _).symm.trans H; with_reducible exact H2_) | with_reducible exact H | (rw [hy385]; exact H) | exact H
                          have Ny385 := Aside0.mk hy385
                          clear hy385
                          replace H := Option.bind_eq_some_iff.mp H
                          obtain ⟨t388, A210, H⟩ := H
                          replace H : (if t388 = true then (lockagelaw15_ForwardMade.l1 k3 l0 a1 x2_4 x9_2 y367 (y367.length : Int) (wrap64 (x31_3 + 1))) else (none)) = some r := H
                          have A21 := Aside0.mk A210
                          clear A210
                          by_cases c22 : t388 = true
                          · subst c22
                            have H1 : (lockagelaw15_ForwardMade.l1 k3 l0 a1 x2_4 x9_2 y367 (y367.length : Int) (wrap64 (x31_3 + 1))) = some r := by rw [if_pos rfl] at H; exact H
                            clear H
                            have H := H1
                            clear H1
                            have H' := Aside0.mk H
                            clear H
                            have p371 : 0 ≤ (x31_3 : Int) := of_decide_eq_true (by first | (with_reducible assumption) | assumption)
                            have q371 : x31_3 < (y367.length : Int) := of_decide_eq_true (by first | (with_reducible assumption) | assumption)
                            obtain ⟨ad371, e371, hx371_0⟩ := Kd.at_bool (Kd.R_reads' HO_29.out).2.2 x31_3 p371 q371
                            cases e371
                            replace p371 := eq_true p371
                            replace q371 := eq_true q371
                            go_wp2_with (first | ((with_reducible refine gate_callee (f := 9) rfl ?_); refine goesL_ (some 37) rfl rfl Tryd.func9 (by kernel_rfl) rfl #[.slice A0 l0.length c0, .bool (rdOf false y367 x31_3)] rfl (by (try simp only [List.map_toArray, List.map_cons, List.map_nil]); first | done | rfl | (simp only [List.length_drop, List.length_take]; rfl)) ?_; (with_reducible refine (lockagelaw06_Made.calls k3 _ _ l0 (rdOf false y367 x31_3) t372 t373 t374 t375 t376 t377 _ ?side1 ?side2 A17.out).mono ?_); (case side1 => repeat (first | exact (Kd.C_below HR0.out HB.out) | (with_reducible refine Kd.C_alloc ?_ _) | (with_reducible refine Kd.C_drewN ?_ _) | (with_reducible refine Kd.C_drew ?_))); (case side2 => exact HC0.out); rintro e w23 ⟨v378, rfl, ho0, hb⟩; refine ⟨_, rfl, ?_⟩; have n0_ := Aside0.mk (Kd.R_below (by (with_reducible repeat (first | apply Kd.R_alloc | apply Kd.R_drewN | apply Kd.R_drew)); exact HO_29.out) hb); have n1_ := Aside0.mk (Kd.R_lower ho0 (below_size (by repeat (first | (with_reducible first | exact HB.out | apply below_alloc | apply pw_below_drewN | apply below_drew1) | exact HB.out)))); have n2_ := Aside0.mk (below_step (by repeat (first | (with_reducible first | exact HB.out | apply below_alloc | apply pw_below_drewN | apply below_drew1) | exact HB.out)) hb); clear HO_29; clear HB; have HO_29 := n0_; have HO379 := n1_; have HB := n2_; clear n0_ n1_ n2_; (try clear hb); (try clear hb2); (try clear hk); (try clear hi); (try clear ho0)) | ((with_reducible refine gate_dst (N := 13) rfl ?_); refine box_event ?hg (N := 13) ?hd (cs := #[.string (⟨#[]⟩ : ByteArray), .string (⟨#[]⟩ : ByteArray), .int .i64 0, .string (⟨#[]⟩ : ByteArray), .int .i64 0, .slice none 0 0]) (t := 24) ?hr ?_; (case hd => rfl); (case hg => rfl); (case hr => first | (go_simp; done) | (go_simp; rfl)); intro gb380 hg w24 hbox hb; have n0_ := Aside0.mk (Kd.R_below (by (with_reducible repeat (first | apply Kd.R_alloc | apply Kd.R_drewN | apply Kd.R_drew)); exact HO_29.out) hb); have n1_ := Aside0.mk (Kd.R_below (by (with_reducible repeat (first | apply Kd.R_alloc | apply Kd.R_drewN | apply Kd.R_drew)); exact HO379.out) hb); have n2_ := Aside0.mk (below_step (by repeat (first | (with_reducible first | exact HB.out | apply below_alloc | apply pw_below_drewN | apply below_drew1) | exact HB.out)) hb); have n3_ := Aside0.mk (hbox); have n4_ := Aside0.mk ((by rw [hg]; exact (below_size (by repeat (first | (with_reducible first | exact HB.out | apply below_alloc | apply pw_below_drewN | apply below_drew1) | exact HB.out))) : w.heap.size ≤ gb380)); have n5_ := Aside0.mk ((by rw [hg]; exact (below_size (by repeat (first | (with_reducible first | exact HB.out | apply below_alloc | apply pw_below_drewN | apply below_drew1) | exact HB.out))) : w.heap.size ≤ gb380)); clear HO_29; clear HO379; clear HB; have HO_29 := n0_; have HO379 := n1_; have HB := n2_; have BK380 := n3_; have GW380 := n4_; have GE380 := n5_; clear n0_ n1_ n2_ n3_ n4_ n5_; clear hb hbox hg; have hcz25_0 : w24.cell? ⟨gb380, 0, none⟩ = some (.string (⟨#[]⟩ : ByteArray)) := (blk_cell BK380.out 0).trans rfl; have hcz25_1 : w24.cell? ⟨gb380, 1, none⟩ = some (.string (⟨#[]⟩ : ByteArray)) := (blk_cell BK380.out 1).trans rfl; have hcz25_2 : w24.cell? ⟨gb380, 2, none⟩ = some (.int .i64 0) := (blk_cell BK380.out 2).trans rfl; have hcz25_3 : w24.cell? ⟨gb380, 3, none⟩ = some (.string (⟨#[]⟩ : ByteArray)) := (blk_cell BK380.out 3).trans rfl; have hcz25_4 : w24.cell? ⟨gb380, 4, none⟩ = some (.int .i64 0) := (blk_cell BK380.out 4).trans rfl; have hcz25_5 : w24.cell? ⟨gb380, 5, none⟩ = some (.slice none 0 0) := (blk_cell BK380.out 5).trans rfl; have hfz25_0 := blk_frozen BK380.out 0; have hfz25_1 := blk_frozen BK380.out 1; have hfz25_2 := blk_frozen BK380.out 2; have hfz25_3 := blk_frozen BK380.out 3; have hfz25_4 := blk_frozen BK380.out 4; have hfz25_5 := blk_frozen BK380.out 5; obtain ⟨Ao26, co26, eo26⟩ := Kd.R_slice HO379.out; subst eo26) | ((with_reducible refine gate_callee (f := 8) rfl ?_); refine goesL_ (some 43) rfl rfl Tryd.func8 (by kernel_rfl) rfl #[.agg #[.string t372, .string t373, .int .i64 t374, .string t375, .int .i64 t376, .slice Ao26 t377.length co26, .string x2_4], .int .i64 (wrap64 (a1))] rfl (by (try simp only [List.map_toArray, List.map_cons, List.map_nil]); first | done | rfl | (simp only [List.length_drop, List.length_take]; rfl)) ?_; (with_reducible refine (lockagelaw15_same.calls k3 t372 t373 t374 t375 t376 _ _ t377 x2_4 (wrap64 (a1)) true _ ?side1 ?side2 ?side3 A18.out).mono ?_); (case side1 => refine (Kd.R_reads' (e := 28) (base := w.heap.size) (ok := fun k_ => True) (n := t377.length) (c := co26) ?_).2.2; exact (by (with_reducible repeat (first | apply Kd.R_alloc | apply Kd.R_drewN | apply Kd.R_drew)); exact (Kd.R_mono (Kd.R_far (p := ⟨gb380, 5, none⟩) (Kd.R_far (p := ⟨gb380, 4, none⟩) (Kd.R_far (p := ⟨gb380, 3, none⟩) (Kd.R_far (p := ⟨gb380, 2, none⟩) (Kd.R_far (p := ⟨gb380, 1, none⟩) (Kd.R_far (p := ⟨gb380, 0, none⟩) (Kd.R_types HO379.out BK380.out (by decide)) (fun _ hk => hk.2) (.string t372)) (fun _ hk => hk.2) (.string t373)) (fun _ hk => hk.2) (.int .i64 t374)) (fun _ hk => hk.2) (.string t375)) (fun _ hk => hk.2) (.int .i64 t376)) (fun _ hk => hk.2) (.slice Ao26 t377.length co26)) (fun _ h_ => h_.1)))); (case side2 => exact (Kd.R_reads' HO379.out).2.1); (case side3 => exact glob_below HG_.out (by repeat (first | (with_reducible first | exact HB.out | apply below_alloc | apply pw_below_drewN | apply below_drew1 | refine below_set ?_ GE380.out) | exact HB.out))); rintro e w27 ⟨rfl, hb⟩; refine ⟨_, rfl, ?_⟩; have n0_ := Aside0.mk (Kd.R_below (by (with_reducible repeat (first | apply Kd.R_alloc | apply Kd.R_drewN | apply Kd.R_drew)); exact (Kd.R_mono (Kd.R_far (p := ⟨gb380, 5, none⟩) (Kd.R_far (p := ⟨gb380, 4, none⟩) (Kd.R_far (p := ⟨gb380, 3, none⟩) (Kd.R_far (p := ⟨gb380, 2, none⟩) (Kd.R_far (p := ⟨gb380, 1, none⟩) (Kd.R_far (p := ⟨gb380, 0, none⟩) (Kd.R_types HO_29.out BK380.out (by decide)) (fun _ hk => hk.2) (.string t372)) (fun _ hk => hk.2) (.string t373)) (fun _ hk => hk.2) (.int .i64 t374)) (fun _ hk => hk.2) (.string t375)) (fun _ hk => hk.2) (.int .i64 t376)) (fun _ hk => hk.2) (.slice Ao26 t377.length co26)) (fun _ h_ => h_.1))) hb); have n1_ := Aside0.mk (Kd.R_below (by (with_reducible repeat (first | apply Kd.R_alloc | apply Kd.R_drewN | apply Kd.R_drew)); exact (Kd.R_mono (Kd.R_far (p := ⟨gb380, 5, none⟩) (Kd.R_far (p := ⟨gb380, 4, none⟩) (Kd.R_far (p := ⟨gb380, 3, none⟩) (Kd.R_far (p := ⟨gb380, 2, none⟩) (Kd.R_far (p := ⟨gb380, 1, none⟩) (Kd.R_far (p := ⟨gb380, 0, none⟩) (Kd.R_types HO379.out BK380.out (by decide)) (fun _ hk => hk.2) (.string t372)) (fun _ hk => hk.2) (.string t373)) (fun _ hk => hk.2) (.int .i64 t374)) (fun _ hk => hk.2) (.string t375)) (fun _ hk => hk.2) (.int .i64 t376)) (fun _ hk => hk.2) (.slice Ao26 t377.length co26)) (fun _ h_ => h_.1))) hb); have n2_ := Aside0.mk (blk_below (g := gb380) (o := .cells #[.string t372, .string t373, .int .i64 t374, .string t375, .int .i64 t376, .slice Ao26 t377.length co26] 24 (0, 0)) (by (with_reducible repeat (first | refine blk_drewN ?_ _ | refine blk_drew ?_ | refine blk_alloc ?_ _)); refine blk_put (cs := #[.string t372, .string t373, .int .i64 t374, .string t375, .int .i64 t376, .slice none 0 0]) ?_ 5 _ rfl; (with_reducible repeat (first | refine blk_drewN ?_ _ | refine blk_drew ?_ | refine blk_alloc ?_ _)); refine blk_put (cs := #[.string t372, .string t373, .int .i64 t374, .string t375, .int .i64 0, .slice none 0 0]) ?_ 4 _ rfl; (with_reducible repeat (first | refine blk_drewN ?_ _ | refine blk_drew ?_ | refine blk_alloc ?_ _)); refine blk_put (cs := #[.string t372, .string t373, .int .i64 t374, .string (⟨#[]⟩ : ByteArray), .int .i64 0, .slice none 0 0]) ?_ 3 _ rfl; (with_reducible repeat (first | refine blk_drewN ?_ _ | refine blk_drew ?_ | refine blk_alloc ?_ _)); refine blk_put (cs := #[.string t372, .string t373, .int .i64 0, .string (⟨#[]⟩ : ByteArray), .int .i64 0, .slice none 0 0]) ?_ 2 _ rfl; (with_reducible repeat (first | refine blk_drewN ?_ _ | refine blk_drew ?_ | refine blk_alloc ?_ _)); refine blk_put (cs := #[.string t372, .string (⟨#[]⟩ : ByteArray), .int .i64 0, .string (⟨#[]⟩ : ByteArray), .int .i64 0, .slice none 0 0]) ?_ 1 _ rfl; (with_reducible repeat (first | refine blk_drewN ?_ _ | refine blk_drew ?_ | refine blk_alloc ?_ _)); refine blk_put (cs := #[.string (⟨#[]⟩ : ByteArray), .string (⟨#[]⟩ : ByteArray), .int .i64 0, .string (⟨#[]⟩ : ByteArray), .int .i64 0, .slice none 0 0]) ?_ 0 _ rfl; (with_reducible repeat (first | refine blk_drewN ?_ _ | refine blk_drew ?_ | refine blk_alloc ?_ _)); exact BK380.out) hb); have n3_ := Aside0.mk (below_step (by repeat (first | (with_reducible first | exact HB.out | apply below_alloc | apply pw_below_drewN | apply below_drew1 | refine below_set ?_ GE380.out) | exact HB.out)) hb); clear HO_29; clear HO379; clear BK380; clear HB; have HO_29 := n0_; have HO379 := n1_; have BK380 := n2_; have HB := n3_; clear n0_ n1_ n2_ n3_; (try clear hb); (try clear hb2); (try clear hk); (try clear hi); have hcz28_0 : w27.cell? ⟨gb380, 0, none⟩ = some (.string t372) := (blk_cell BK380.out 0).trans rfl; have hcz28_1 : w27.cell? ⟨gb380, 1, none⟩ = some (.string t373) := (blk_cell BK380.out 1).trans rfl; have hcz28_2 : w27.cell? ⟨gb380, 2, none⟩ = some (.int .i64 t374) := (blk_cell BK380.out 2).trans rfl; have hcz28_3 : w27.cell? ⟨gb380, 3, none⟩ = some (.string t375) := (blk_cell BK380.out 3).trans rfl; have hcz28_4 : w27.cell? ⟨gb380, 4, none⟩ = some (.int .i64 t376) := (blk_cell BK380.out 4).trans rfl; have hcz28_5 : w27.cell? ⟨gb380, 5, none⟩ = some (.slice Ao26 t377.length co26) := (blk_cell BK380.out 5).trans rfl; have hfz28_0 := blk_frozen BK380.out 0; have hfz28_1 := blk_frozen BK380.out 1; have hfz28_2 := blk_frozen BK380.out 2; have hfz28_3 := blk_frozen BK380.out 3; have hfz28_4 := blk_frozen BK380.out 4; have hfz28_5 := blk_frozen BK380.out 5) | ((with_reducible refine gate_dst (N := 52) rfl ?_); refine Kd.R_lit k28 _ 28 ?hg (N := 52) ?hd (xs := ([(⟨(⟨#[120, 45, 102, 111, 114, 119, 97, 114, 100, 101, 100, 45, 102, 111, 114]⟩ : ByteArray), x2_4⟩ : S28), (⟨(⟨#[88, 45, 70, 111, 114, 119, 97, 114, 100, 101, 100, 45, 70, 111, 114]⟩ : ByteArray), (⟨#[113]⟩ : ByteArray)⟩ : S28), (⟨(⟨#[88, 45, 70, 79, 82, 87, 65, 82, 68, 69, 68, 45, 70, 79, 82]⟩ : ByteArray), x9_2⟩ : S28)] : List (S28))) (inner := [.string (⟨#[120, 45, 102, 111, 114, 119, 97, 114, 100, 101, 100, 45, 102, 111, 114]⟩ : ByteArray), .string x2_4, .string (⟨#[88, 45, 70, 111, 114, 119, 97, 114, 100, 101, 100, 45, 70, 111, 114]⟩ : ByteArray), .string (⟨#[113]⟩ : ByteArray), .string (⟨#[88, 45, 70, 79, 82, 87, 65, 82, 68, 69, 68, 45, 70, 79, 82]⟩ : ByteArray), .string x9_2]) (ok := fun _ => True) (okp := fun _ => True) ?hr ?hp (fun _ hk => hk) trivial (Below.refl _ _) (Nat.le_refl _) (by simp) ?_; (case hd => rfl); (case hg => rfl); (case hr => first | (go_simp; done) | (go_simp; rfl)); (case hp => exact (Reps.c2 (show Kd.M k28 _ _ _ (⟨(⟨#[120, 45, 102, 111, 114, 119, 97, 114, 100, 101, 100, 45, 102, 111, 114]⟩ : ByteArray), x2_4⟩ : S28) [.string (⟨#[120, 45, 102, 111, 114, 119, 97, 114, 100, 101, 100, 45, 102, 111, 114]⟩ : ByteArray), .string x2_4] from (k28_mkM _ _ _ (⟨(⟨#[120, 45, 102, 111, 114, 119, 97, 114, 100, 101, 100, 45, 102, 111, 114]⟩ : ByteArray), x2_4⟩ : S28) )) (Reps.c2 (show Kd.M k28 _ _ _ (⟨(⟨#[88, 45, 70, 111, 114, 119, 97, 114, 100, 101, 100, 45, 70, 111, 114]⟩ : ByteArray), (⟨#[113]⟩ : ByteArray)⟩ : S28) [.string (⟨#[88, 45, 70, 111, 114, 119, 97, 114, 100, 101, 100, 45, 70, 111, 114]⟩ : ByteArray), .string (⟨#[113]⟩ : ByteArray)] from (k28_mkM _ _ _ (⟨(⟨#[88, 45, 70, 111, 114, 119, 97, 114, 100, 101, 100, 45, 70, 111, 114]⟩ : ByteArray), (⟨#[113]⟩ : ByteArray)⟩ : S28) )) (Reps.c2 (show Kd.M k28 _ _ _ (⟨(⟨#[88, 45, 70, 79, 82, 87, 65, 82, 68, 69, 68, 45, 70, 79, 82]⟩ : ByteArray), x9_2⟩ : S28) [.string (⟨#[88, 45, 70, 79, 82, 87, 65, 82, 68, 69, 68, 45, 70, 79, 82]⟩ : ByteArray), .string x9_2] from (k28_mkM _ _ _ (⟨(⟨#[88, 45, 70, 79, 82, 87, 65, 82, 68, 69, 68, 45, 70, 79, 82]⟩ : ByteArray), x9_2⟩ : S28) )) (Reps.none _ _))))); intro v383 w29 ho30 hb hg_ hnew_; clear hg_ hnew_; (first | rw [← Ny382.out] at ho30 | (simp only [Int.reduceToNat] at ho30; rw [← Ny382.out] at ho30)); have n0_ := Aside0.mk (Kd.R_below (by (with_reducible repeat (first | apply Kd.R_alloc | apply Kd.R_drewN | apply Kd.R_drew)); exact HO_29.out) hb); have n1_ := Aside0.mk (Kd.R_elder' (by (with_reducible repeat (first | apply Kd.R_alloc | apply Kd.R_drewN | apply Kd.R_drew)); exact HO379.out) (Kd.R_base ho30) hb); have n2_ := Aside0.mk (Kd.R_lower (Kd.R_new' ho30 (Kd.R_lt (by (with_reducible repeat (first | apply Kd.R_alloc | apply Kd.R_drewN | apply Kd.R_drew)); exact HO379.out))) (below_size (by repeat (first | (with_reducible first | exact HB.out | apply below_alloc | apply pw_below_drewN | apply below_drew1 | refine below_set ?_ GE380.out) | exact HB.out)))); have n3_ := Aside0.mk (blk_below (g := gb380) (o := .cells #[.string t372, .string t373, .int .i64 t374, .string t375, .int .i64 t376, .slice Ao26 t377.length co26] 24 (0, 0)) (by (with_reducible repeat (first | refine blk_drewN ?_ _ | refine blk_drew ?_ | refine blk_alloc ?_ _)); exact BK380.out) hb); have n4_ := Aside0.mk (below_step (by repeat (first | (with_reducible first | exact HB.out | apply below_alloc | apply pw_below_drewN | apply below_drew1 | refine below_set ?_ GE380.out) | exact HB.out)) hb); clear HO_29; clear HO379; clear BK380; clear HB; have HO_29 := n0_; have HO379 := n1_; have HO384 := n2_; have BK380 := n3_; have HB := n4_; clear n0_ n1_ n2_ n3_ n4_; clear hb ho30; obtain ⟨Ao32, co32, eo32⟩ := Kd.R_slice HO384.out; subst eo32) | ((with_reducible refine gate_builtin (b := .append) (xs := #[.tmp 46, .tmp 52]) rfl ?_); at_builtin; refine Kd.R_append_rows k28 (w0 := w) w.heap.size rfl (.tmp 46) (.tmp 52) 22 28 (.agg #[(.string ⟨#[]⟩), (.string ⟨#[]⟩)]) 32 rfl Tryd.underlying22 info28 rfl (by decide) (by omega) (.slice Ao26 t377.length co26) t377 y382 _ _ _ (fun k_ => some k_ ≠ (.slice Ao32 y382.length co32 : Value).ownBlock) (fun _ => False) rfl rfl ?aO ?aR (fun _ _ h => h) (fun _ h => h.elim) ?aF ?aB ?aS ?aL ?_; (case aR => repeat (first | exact (Kd.R_reads' HO384.out).2.2 | (with_reducible refine Kd.C_alloc ?_ _) | (with_reducible refine Kd.C_drewN ?_ _) | (with_reducible refine Kd.C_drew ?_))); (case aB => exact (by repeat (first | (with_reducible first | exact HB.out | apply below_alloc | apply pw_below_drewN | apply below_drew1 | refine below_set ?_ GE380.out) | exact HB.out))); (case aF => exact (fun k_ hk => Kd.fresh' (Kd.R_lt (by (with_reducible repeat (first | apply Kd.R_alloc | apply Kd.R_drewN | apply Kd.R_drew)); exact HO384.out)) k_ hk)); (case aO => exact (by (with_reducible repeat (first | apply Kd.R_alloc | apply Kd.R_drewN | apply Kd.R_drew)); exact Kd.R_mono HO379.out (fun _ hk => hk.2))); (case aS => exact (below_size (by repeat (first | (with_reducible first | exact HB.out | apply below_alloc | apply pw_below_drewN | apply below_drew1 | refine below_set ?_ GE380.out) | exact HB.out)))); (case aL => have := LMc20.out; omega); intro v386 w31 ho hb hg hat; rw [← Ny385.out] at ho; have n0_ := Aside0.mk (Kd.R_over' (by (with_reducible repeat (first | apply Kd.R_alloc | apply Kd.R_drewN | apply Kd.R_drew)); exact HO_29.out) (Kd.R_typed (by (with_reducible repeat (first | apply Kd.R_alloc | apply Kd.R_drewN | apply Kd.R_drew)); exact HO379.out)) (by decide) hg); have n1_ := Aside0.mk (blk_grown (g := gb380) (o := .cells #[.string t372, .string t373, .int .i64 t374, .string t375, .int .i64 t376, .slice Ao26 t377.length co26] 24 (0, 0)) (by (with_reducible repeat (first | refine blk_drewN ?_ _ | refine blk_drew ?_ | refine blk_alloc ?_ _)); exact BK380.out) hg (Kd.R_ne HO379.out BK380.out (by decide))); have n2_ := Aside0.mk (Kd.R_after (ok := (fun _ => True)) (by (with_reducible repeat (first | apply Kd.R_alloc | apply Kd.R_drewN | apply Kd.R_drew)); exact HO384.out) hg hat); have n3_ := Aside0.mk (hb); have n4_ := Aside0.mk (ho); clear HO_29; clear BK380; clear HO384; clear HB; clear HO379; have HO_29 := n0_; have BK380 := n1_; have HO384 := n2_; have HB := n3_; have HO387 := n4_; clear n0_ n1_ n2_ n3_ n4_; clear ho hb hg hat; obtain ⟨Ao33, co33, eo33⟩ := Kd.R_slice HO387.out; subst eo33; have hcz34_0 : w31.cell? ⟨gb380, 0, none⟩ = some (.string t372) := (blk_cell BK380.out 0).trans rfl; have hcz34_1 : w31.cell? ⟨gb380, 1, none⟩ = some (.string t373) := (blk_cell BK380.out 1).trans rfl; have hcz34_2 : w31.cell? ⟨gb380, 2, none⟩ = some (.int .i64 t374) := (blk_cell BK380.out 2).trans rfl; have hcz34_3 : w31.cell? ⟨gb380, 3, none⟩ = some (.string t375) := (blk_cell BK380.out 3).trans rfl; have hcz34_4 : w31.cell? ⟨gb380, 4, none⟩ = some (.int .i64 t376) := (blk_cell BK380.out 4).trans rfl; have hcz34_5 : w31.cell? ⟨gb380, 5, none⟩ = some (.slice Ao26 t377.length co26) := (blk_cell BK380.out 5).trans rfl; have hfz34_0 := blk_frozen BK380.out 0; have hfz34_1 := blk_frozen BK380.out 1; have hfz34_2 := blk_frozen BK380.out 2; have hfz34_3 := blk_frozen BK380.out 3; have hfz34_4 := blk_frozen BK380.out 4; have hfz34_5 := blk_frozen BK380.out 5) | ((with_reducible refine gate_callee (f := 8) rfl ?_); refine goesL_ (some 59) rfl rfl Tryd.func8 (by kernel_rfl) rfl #[.agg #[.string t372, .string t373, .int .i64 t374, .string t375, .int .i64 t376, .slice Ao33 y385.length co33, .string (⟨#[]⟩ : ByteArray)], .int .i64 (wrap64 (a1))] rfl (by (try simp only [List.map_toArray, List.map_cons, List.map_nil]); first | done | rfl | (simp only [List.length_drop, List.length_take]; rfl)) ?_; (with_reducible refine (lockagelaw15_same.calls k3 t372 t373 t374 t375 t376 _ _ y385 (⟨#[]⟩ : ByteArray) (wrap64 (a1)) true _ ?side1 ?side2 ?side3 A21.out).mono ?_); (case side1 => refine (Kd.R_reads' (e := 28) (base := w.heap.size) (ok := fun k_ => some k_ ≠ (.slice Ao32 y382.length co32 : Value).ownBlock) (n := y385.length) (c := co33) ?_).2.2; exact (by (with_reducible repeat (first | apply Kd.R_alloc | apply Kd.R_drewN | apply Kd.R_drew)); exact (Kd.R_mono (Kd.R_far (p := ⟨gb380, 5, none⟩) (Kd.R_types HO387.out BK380.out (by decide)) (fun _ hk => hk.2) (.slice Ao33 y385.length co33)) (fun _ h_ => h_.1)))); (case side2 => exact (Kd.R_reads' HO387.out).2.1); (case side3 => exact glob_below HG_.out (by repeat (first | (with_reducible first | exact HB.out | apply below_alloc | apply pw_below_drewN | apply below_drew1 | refine below_set ?_ GE380.out) | exact HB.out))); rintro e w35 ⟨rfl, hb⟩; refine ⟨_, rfl, ?_⟩; have n0_ := Aside0.mk (Kd.R_below (by (with_reducible repeat (first | apply Kd.R_alloc | apply Kd.R_drewN | apply Kd.R_drew)); exact (Kd.R_mono (Kd.R_far (p := ⟨gb380, 5, none⟩) (Kd.R_types HO_29.out BK380.out (by decide)) (fun _ hk => hk.2) (.slice Ao33 y385.length co33)) (fun _ h_ => h_.1))) hb); have n1_ := Aside0.mk (Kd.R_below (by (with_reducible repeat (first | apply Kd.R_alloc | apply Kd.R_drewN | apply Kd.R_drew)); exact (Kd.R_mono (Kd.R_far (p := ⟨gb380, 5, none⟩) (Kd.R_types HO384.out BK380.out (by decide)) (fun _ hk => hk.2) (.slice Ao33 y385.length co33)) (fun _ h_ => h_.1))) hb); have n2_ := Aside0.mk (Kd.R_below (by (with_reducible repeat (first | apply Kd.R_alloc | apply Kd.R_drewN | apply Kd.R_drew)); exact (Kd.R_mono (Kd.R_far (p := ⟨gb380, 5, none⟩) (Kd.R_types HO387.out BK380.out (by decide)) (fun _ hk => hk.2) (.slice Ao33 y385.length co33)) (fun _ h_ => h_.1))) hb); have n3_ := Aside0.mk (blk_below (g := gb380) (o := .cells #[.string t372, .string t373, .int .i64 t374, .string t375, .int .i64 t376, .slice Ao33 y385.length co33] 24 (0, 0)) (by (with_reducible repeat (first | refine blk_drewN ?_ _ | refine blk_drew ?_ | refine blk_alloc ?_ _)); refine blk_put (cs := #[.string t372, .string t373, .int .i64 t374, .string t375, .int .i64 t376, .slice Ao26 t377.length co26]) ?_ 5 _ rfl; (with_reducible repeat (first | refine blk_drewN ?_ _ | refine blk_drew ?_ | refine blk_alloc ?_ _)); exact BK380.out) hb); have n4_ := Aside0.mk (below_step (by repeat (first | (with_reducible first | exact HB.out | apply below_alloc | apply pw_below_drewN | apply below_drew1 | refine below_set ?_ GE380.out) | exact HB.out)) hb); clear HO_29; clear HO384; clear HO387; clear BK380; clear HB; have HO_29 := n0_; have HO384 := n1_; have HO387 := n2_; have BK380 := n3_; have HB := n4_; clear n0_ n1_ n2_ n3_ n4_; (try clear hb); (try clear hb2); (try clear hk); (try clear hi)))
                            go_roundg k3
                            case measure => have := HJ4.out; have := HK2.out; have := HK3.out; omega
                            case rel => exact ⟨(wrap64 (x31_3 + 1)), (by first | rfl | (simp; done) | (simp [*]; done)), H', ⟨by have := HJ4.out; have := HK2.out; have := HK3.out; omega⟩, ⟨by (with_reducible repeat (first | apply Kd.R_alloc | apply Kd.R_drewN | apply Kd.R_drew)); exact HO_29.out⟩, ⟨by repeat (first | (with_reducible first | exact HB.out | apply below_alloc | apply pw_below_drewN | apply below_drew1 | refine below_set ?_ GE380.out) | exact HB.out)⟩⟩
                          · replace c22 := Bool.eq_false_iff.mpr c22
                            subst c22
                            have H1 : (none) = some r := by rw [if_neg (show ¬ (false = true) by decide)] at H; exact H
                            clear H
                            have H := H1
                            clear H1
                            exact absurd H (by simp)
                        · rw [if_neg c20] at H
                          exact absurd H (by simp)
                      · replace c19 := Bool.eq_false_iff.mpr c19
                        subst c19
                        have H1 : (none) = some r := by rw [if_neg (show ¬ (false = true) by decide)] at H; exact H
                        clear H
                        have H := H1
                        clear H1
                        exact absurd H (by simp)
                    · rw [if_neg c16] at H
                      exact absurd H (by simp)
                  · rw [if_neg c15] at H
                    exact absurd H (by simp)
                · rw [if_neg c14] at H
                  have c14b0 : decide (x31_3 < (y367.length : Int)) = false := decide_eq_false c14
                  clear c14
                  replace H := Option.bind_eq_some_iff.mp H
                  obtain ⟨t370, A360, H⟩ := H
                  replace H : (some t370) = some r := H
                  have A36 := Aside0.mk A360
                  clear A360
                  obtain rfl := Option.some.inj H
                  go_wp2_with (first | ((with_reducible refine gate_callee (f := 7) rfl ?_); refine goesL_ (some 62) rfl rfl Tryd.func7 (by kernel_rfl) rfl #[] rfl (by (try simp only [List.map_toArray, List.map_cons, List.map_nil]); first | done | rfl | (simp only [List.length_drop, List.length_take]; rfl)) ?_; (with_reducible refine (lockagelaw15_awake.calls k3  t370 _ ?side1 A36.out).mono ?_); (case side1 => exact glob_below HG_.out (by repeat (first | (with_reducible first | exact HB.out | apply below_alloc | apply pw_below_drewN | apply below_drew1) | exact HB.out))); rintro e w37 ⟨rfl, hb⟩; refine ⟨_, rfl, ?_⟩; have n0_ := Aside0.mk (Kd.R_below (by (with_reducible repeat (first | apply Kd.R_alloc | apply Kd.R_drewN | apply Kd.R_drew)); exact HO_29.out) hb); have n1_ := Aside0.mk (below_step (by repeat (first | (with_reducible first | exact HB.out | apply below_alloc | apply pw_below_drewN | apply below_drew1) | exact HB.out)) hb); clear HO_29; clear HB; have HO_29 := n0_; have HB := n1_; clear n0_ n1_; (try clear hb); (try clear hb2); (try clear hk); (try clear hi)))
                  go_ret
                  exact ⟨by first | rfl | (simp [errW_none, errW_some] <;> rfl) | (simp [*, errW_none, errW_some] <;> rfl), by repeat (first | (with_reducible first | exact HB.out | apply below_alloc | apply pw_below_drewN | apply below_drew1) | exact HB.out)⟩

/-- THE ONE PURE STATEMENT of lockagelaw15_ForwardMade: yours. -/
def lockagelaw15_ForwardMade.Pure : Prop := ∀ (l0 : List Int) (a1 : Int) (a2 : ByteArray) (a3 : Int), l0.length ≤ maxLen → l0.length * 1 ≤ 140737488351232 → (∀ x ∈ l0, (Lit.int .u8 x).wf = true) → (Lit.int .u8 a1).wf = true → a2.size ≤ 140737488351232 → (Lit.int .u8 a3).wf = true → ∃ k, lockagelaw15_ForwardMade.f k l0 a1 a2 a3 = some true

end Go.Proofs.YthmpfncidpjnjaaDoor.P
