/- Printed by a program of the session out of the translation: plain Lean functions, each with the contract that the Go function computes it. -/
import Derived.Test.YtemhokkfefidlaaGreatDoorPx0
import Derived.Test.YtemhokkfefidlaaGreatDoorPx7
import Derived.Test.YtemhokkfefidlaaGreatDoorPx9
import Derived.Test.YtemhokkfefidlaaGreatDoorPx8
import Derived.Test.YtemhokkfefidlaaGreatDoorPx10
import Derived.Test.YtemhokkfefidlaaGreatDoorPx12
import Derived.Test.YtemhokkfefidlaaGreatDoorHZJ
import Derived.Test.YtemhokkfefidlaaGreatDoorHZB
namespace Go.Proofs.YtemhokkfefidlaaGreatDoor.P
open Go.RowKit Go.Proofs.YtemhokkfefidlaaGreatDoorW.PrintWords Go.Proofs.YtemhokkfefidlaaGreatDoorW.PrintLast Go.Proofs.YtemhokkfefidlaaGreatDoorW.PrintMore

set_option linter.unusedVariables false
set_option linter.unusedSimpArgs false

def lockagelaw06_size.l0 : Nat → Int → Int → ByteArray → ByteArray → Int → ByteArray → Int → List (S37) → Option (Int)
 | 0, _, _, _, _, _, _, _, _ => none
 | k + 1, x3, x4, x382000, x382001, x382002, x382003, x382004, x382005 => if x4 < (x382005.length : Int) then (if x3 < 5000 then (if 0 ≤ x4 then (lockagelaw06_size.l0 k (wrap64 ((wrap64 ((wrap64 (x3 + (((rd_T37 x382005 x4).f0).size : Int))) + (((rd_T37 x382005 x4).f1).size : Int))) + 1)) (wrap64 (x4 + 1)) x382000 x382001 x382002 x382003 x382004 x382005) else (none)) else (some x3)) else (some x3)
def lockagelaw06_size.f (k : Nat) (a0_0 : ByteArray) (a0_1 : ByteArray) (a0_2 : Int) (a0_3 : ByteArray) (a0_4 : Int) (l0_5 : List (S37)) : Option (Int) := lockagelaw06_size.l0 k (wrap64 ((wrap64 ((a0_0.size : Int) + (a0_1.size : Int))) + (a0_3.size : Int))) 0 a0_0 a0_1 a0_2 a0_3 a0_4 l0_5
theorem lockagelaw06_size.mono_l : ∀ k, (∀ y0 y1 y2 y3 y4 y5 y6 y7, LeO (lockagelaw06_size.l0 k y0 y1 y2 y3 y4 y5 y6 y7) (lockagelaw06_size.l0 (k + 1) y0 y1 y2 y3 y4 y5 y6 y7))
 | 0 => fun _ _ _ _ _ _ _ _ r h => by simp [lockagelaw06_size.l0] at h
 | k + 1 => by
  have ih0 := lockagelaw06_size.mono_l k
  ·intro y0 y1 y2 y3 y4 y5 y6 y7
   unfold lockagelaw06_size.l0
   repeat' first
   | (with_reducible exact ih0 _ _ _ _ _ _ _ _)
   | (with_reducible exact LeO.refl _)
   | (with_reducible exact LeO.none _)
   | (with_reducible refine LeO.ite ?_ ?_)
   | (with_reducible refine LeO.bind ?_ (fun _ => ?_))
   | exact ih0 _ _ _ _ _ _ _ _
   | exact LeO.none _
   | refine LeO.ite ?_ ?_
   | refine LeO.bind ?_ (fun _ => ?_)
theorem lockagelaw06_size.mono : ∀ a0 a1 a2 a3 a4 a5 k, LeO (lockagelaw06_size.f k a0 a1 a2 a3 a4 a5) (lockagelaw06_size.f (k + 1) a0 a1 a2 a3 a4 a5) := by
 intro a0 a1 a2 a3 a4 a5 k
 have ih0 := lockagelaw06_size.mono_l k
 unfold lockagelaw06_size.f
 repeat' first
   | (with_reducible exact ih0 _ _ _ _ _ _ _ _)
   | (with_reducible exact LeO.refl _)
   | (with_reducible exact LeO.none _)
   | (with_reducible refine LeO.ite ?_ ?_)
   | (with_reducible refine LeO.bind ?_ (fun _ => ?_))
   | exact ih0 _ _ _ _ _ _ _ _
   | exact LeO.none _
   | refine LeO.ite ?_ ?_
   | refine LeO.bind ?_ (fun _ => ?_)
set_option maxHeartbeats 8000000 in
set_option maxRecDepth 100000 in
theorem lockagelaw06_size.calls (k : Nat) (a0_0 : ByteArray) (a0_1 : ByteArray) (a0_2 : Int) (a0_3 : ByteArray) (a0_4 : Int) (A0_5 : Option Addr) (c0_5 : Nat) (l0_5 : List (S37)) (r : Int) (w : World) (hr0_5 : Kd.C k37 w A0_5 l0_5.length l0_5) (hc0_5 : l0_5.length ≤ c0_5) (h : lockagelaw06_size.f k a0_0 a0_1 a0_2 a0_3 a0_4 l0_5 = some r) :
  Calls Tryz.prog 11 #[.agg #[.string a0_0, .string a0_1, .int .i64 a0_2, .string a0_3, .int .i64 a0_4, .slice A0_5 l0_5.length c0_5]] w fun e w' => e = .returned (.int .i64 r) ∧ Below w.heap.size w w' := by
 have hu30 := Tryz.underlying30
 have HR0_5 := Aside0.mk hr0_5
 have HC0_5 := Aside0.mk hc0_5
 clear hr0_5 hc0_5
 have HB := Aside0.mk (Below.refl w.heap.size w)
 have H : (lockagelaw06_size.l0 k (wrap64 ((wrap64 ((a0_0.size : Int) + (a0_1.size : Int))) + (a0_3.size : Int))) 0 a0_0 a0_1 a0_2 a0_3 a0_4 l0_5) = some r := h
 clear h
 have H' := Aside0.mk H
 clear H
 go_enter Tryz.func11, Tryz.ntmps11
 go_wp2_with (first | ((with_reducible refine gate_dst (N := 1) rfl ?_); refine box_event ?hg (N := 1) ?hd (cs := #[.string a0_0, .string a0_1, .int .i64 a0_2, .string a0_3, .int .i64 a0_4, .slice A0_5 l0_5.length c0_5]) (t := 30) ?hr ?_; (case hd => rfl); (case hg => first | rfl | exact wanted_on rfl rfl rfl (e17.trans (by first | rfl | (simp [*]; done)))); (case hr => first | (go_simp; done) | (go_simp; rfl)); intro gb381 hg w2 hbox hb; have n0_ := Aside0.mk (below_step (by repeat (first | (with_reducible first | exact HB.out | apply below_alloc | apply pw_below_drewN | apply below_drew1) | exact HB.out)) hb); have n1_ := Aside0.mk (hbox); have n2_ := Aside0.mk ((by rw [hg]; exact (below_size (by repeat (first | (with_reducible first | exact HB.out | apply below_alloc | apply pw_below_drewN | apply below_drew1) | exact HB.out))) : w.heap.size ≤ gb381)); have n3_ := Aside0.mk ((by rw [hg]; exact (below_size (by repeat (first | (with_reducible first | exact HB.out | apply below_alloc | apply pw_below_drewN | apply below_drew1) | exact HB.out))) : w.heap.size ≤ gb381)); clear HB; have HB := n0_; have BK381 := n1_; have GW381 := n2_; have GE381 := n3_; clear n0_ n1_ n2_ n3_; clear hb hbox hg; have hcz3_0 : w2.cell? ⟨gb381, 0, none⟩ = some (.string a0_0) := (blk_cell BK381.out 0).trans rfl; have hcz3_1 : w2.cell? ⟨gb381, 1, none⟩ = some (.string a0_1) := (blk_cell BK381.out 1).trans rfl; have hcz3_2 : w2.cell? ⟨gb381, 2, none⟩ = some (.int .i64 a0_2) := (blk_cell BK381.out 2).trans rfl; have hcz3_3 : w2.cell? ⟨gb381, 3, none⟩ = some (.string a0_3) := (blk_cell BK381.out 3).trans rfl; have hcz3_4 : w2.cell? ⟨gb381, 4, none⟩ = some (.int .i64 a0_4) := (blk_cell BK381.out 4).trans rfl; have hcz3_5 : w2.cell? ⟨gb381, 5, none⟩ = some (.slice A0_5 l0_5.length c0_5) := (blk_cell BK381.out 5).trans rfl; have hfz3_0 := blk_frozen BK381.out 0; have hfz3_1 := blk_frozen BK381.out 1; have hfz3_2 := blk_frozen BK381.out 2; have hfz3_3 := blk_frozen BK381.out 3; have hfz3_4 := blk_frozen BK381.out 4; have hfz3_5 := blk_frozen BK381.out 5))
 repeat (go_quiet (first | ((with_reducible refine gate_dst (N := 1) rfl ?_); refine box_event ?hg (N := 1) ?hd (cs := #[.string a0_0, .string a0_1, .int .i64 a0_2, .string a0_3, .int .i64 a0_4, .slice A0_5 l0_5.length c0_5]) (t := 30) ?hr ?_; (case hd => rfl); (case hg => first | rfl | exact wanted_on rfl rfl rfl (e17.trans (by first | rfl | (simp [*]; done)))); (case hr => first | (go_simp; done) | (go_simp; rfl)); intro gb381 hg w2 hbox hb; have n0_ := Aside0.mk (below_step (by repeat (first | (with_reducible first | exact HB.out | apply below_alloc | apply pw_below_drewN | apply below_drew1) | exact HB.out)) hb); have n1_ := Aside0.mk (hbox); have n2_ := Aside0.mk ((by rw [hg]; exact (below_size (by repeat (first | (with_reducible first | exact HB.out | apply below_alloc | apply pw_below_drewN | apply below_drew1) | exact HB.out))) : w.heap.size ≤ gb381)); have n3_ := Aside0.mk ((by rw [hg]; exact (below_size (by repeat (first | (with_reducible first | exact HB.out | apply below_alloc | apply pw_below_drewN | apply below_drew1) | exact HB.out))) : w.heap.size ≤ gb381)); clear HB; have HB := n0_; have BK381 := n1_; have GW381 := n2_; have GE381 := n3_; clear n0_ n1_ n2_ n3_; clear hb hbox hg; have hcz3_0 : w2.cell? ⟨gb381, 0, none⟩ = some (.string a0_0) := (blk_cell BK381.out 0).trans rfl; have hcz3_1 : w2.cell? ⟨gb381, 1, none⟩ = some (.string a0_1) := (blk_cell BK381.out 1).trans rfl; have hcz3_2 : w2.cell? ⟨gb381, 2, none⟩ = some (.int .i64 a0_2) := (blk_cell BK381.out 2).trans rfl; have hcz3_3 : w2.cell? ⟨gb381, 3, none⟩ = some (.string a0_3) := (blk_cell BK381.out 3).trans rfl; have hcz3_4 : w2.cell? ⟨gb381, 4, none⟩ = some (.int .i64 a0_4) := (blk_cell BK381.out 4).trans rfl; have hcz3_5 : w2.cell? ⟨gb381, 5, none⟩ = some (.slice A0_5 l0_5.length c0_5) := (blk_cell BK381.out 5).trans rfl; have hfz3_0 := blk_frozen BK381.out 0; have hfz3_1 := blk_frozen BK381.out 1; have hfz3_2 := blk_frozen BK381.out 2; have hfz3_3 := blk_frozen BK381.out 3; have hfz3_4 := blk_frozen BK381.out 4; have hfz3_5 := blk_frozen BK381.out 5)); try go_wp2_with (first | ((with_reducible refine gate_dst (N := 1) rfl ?_); refine box_event ?hg (N := 1) ?hd (cs := #[.string a0_0, .string a0_1, .int .i64 a0_2, .string a0_3, .int .i64 a0_4, .slice A0_5 l0_5.length c0_5]) (t := 30) ?hr ?_; (case hd => rfl); (case hg => first | rfl | exact wanted_on rfl rfl rfl (e17.trans (by first | rfl | (simp [*]; done)))); (case hr => first | (go_simp; done) | (go_simp; rfl)); intro gb381 hg w2 hbox hb; have n0_ := Aside0.mk (below_step (by repeat (first | (with_reducible first | exact HB.out | apply below_alloc | apply pw_below_drewN | apply below_drew1) | exact HB.out)) hb); have n1_ := Aside0.mk (hbox); have n2_ := Aside0.mk ((by rw [hg]; exact (below_size (by repeat (first | (with_reducible first | exact HB.out | apply below_alloc | apply pw_below_drewN | apply below_drew1) | exact HB.out))) : w.heap.size ≤ gb381)); have n3_ := Aside0.mk ((by rw [hg]; exact (below_size (by repeat (first | (with_reducible first | exact HB.out | apply below_alloc | apply pw_below_drewN | apply below_drew1) | exact HB.out))) : w.heap.size ≤ gb381)); clear HB; have HB := n0_; have BK381 := n1_; have GW381 := n2_; have GE381 := n3_; clear n0_ n1_ n2_ n3_; clear hb hbox hg; have hcz3_0 : w2.cell? ⟨gb381, 0, none⟩ = some (.string a0_0) := (blk_cell BK381.out 0).trans rfl; have hcz3_1 : w2.cell? ⟨gb381, 1, none⟩ = some (.string a0_1) := (blk_cell BK381.out 1).trans rfl; have hcz3_2 : w2.cell? ⟨gb381, 2, none⟩ = some (.int .i64 a0_2) := (blk_cell BK381.out 2).trans rfl; have hcz3_3 : w2.cell? ⟨gb381, 3, none⟩ = some (.string a0_3) := (blk_cell BK381.out 3).trans rfl; have hcz3_4 : w2.cell? ⟨gb381, 4, none⟩ = some (.int .i64 a0_4) := (blk_cell BK381.out 4).trans rfl; have hcz3_5 : w2.cell? ⟨gb381, 5, none⟩ = some (.slice A0_5 l0_5.length c0_5) := (blk_cell BK381.out 5).trans rfl; have hfz3_0 := blk_frozen BK381.out 0; have hfz3_1 := blk_frozen BK381.out 1; have hfz3_2 := blk_frozen BK381.out 2; have hfz3_3 := blk_frozen BK381.out 3; have hfz3_4 := blk_frozen BK381.out 4; have hfz3_5 := blk_frozen BK381.out 5)))
 go_loopg [3, 4] k (fun kq v3 v4 w' => ∃ (x3_1 : Int) (x4_1 : Int), v3 = .int .i64 x3_1 ∧ v4 = .int .i64 x4_1 ∧ Aside0 (lockagelaw06_size.l0 kq x3_1 x4_1 a0_0 a0_1 a0_2 a0_3 a0_4 l0_5 = some r) ∧ Aside0 (kq ≤ k) ∧ Aside0 (w'.heap[gb381]? = some (.cells #[.string a0_0, .string a0_1, .int .i64 a0_2, .string a0_3, .int .i64 a0_4, (.slice A0_5 l0_5.length c0_5)] 30 (0, 0))) ∧ Aside0 (Below w.heap.size w w'))
 case atStart => exact ⟨(wrap64 ((wrap64 ((a0_0.size : Int) + (a0_1.size : Int))) + (a0_3.size : Int))), (0), (by first | rfl | (simp; done) | (simp [*]; done)), (by first | rfl | (simp; done) | (simp [*]; done)), H', ⟨Nat.le_refl _⟩, ⟨by (with_reducible repeat (first | refine blk_drewN ?_ _ | refine blk_drew ?_ | refine blk_alloc ?_ _)); exact BK381.out⟩, ⟨by repeat (first | (with_reducible first | exact HB.out | apply below_alloc | apply pw_below_drewN | apply below_drew1 | refine below_set ?_ GE381.out) | exact HB.out)⟩⟩
 case round =>
  clear H'
  try clear c1
  try clear p2
  try clear hcz3_0
  try clear hcz3_1
  try clear hcz3_2
  try clear hcz3_3
  try clear hcz3_4
  try clear hcz3_5
  try clear hfz3_0
  try clear hfz3_1
  try clear hfz3_2
  try clear hfz3_3
  try clear hfz3_4
  try clear hfz3_5
  obtain ⟨x3_1, x4_1, rfl, rfl, HA, HK1, BK381, HB⟩ := hrel
  cases gk with
  | zero => exact absurd HA.out (by simp [lockagelaw06_size.l0])
  | succ k1 =>
   have H := HA.out
   clear HA
   simp only [lockagelaw06_size.l0] at H
   by_cases c4 : x4_1 < (l0_5.length : Int)
   ·rw [if_pos c4] at H
    have c4b0 : decide (x4_1 < (l0_5.length : Int)) = true := decide_eq_true c4
    clear c4
    by_cases c5 : x3_1 < 5000
    ·rw [if_pos c5] at H
     have c5b0 : decide (x3_1 < 5000) = true := decide_eq_true c5
     clear c5
     by_cases c6 : 0 ≤ x4_1
     ·rw [if_pos c6] at H
      have c6b0 : decide (0 ≤ x4_1) = true := decide_eq_true c6
      clear c6
      have H' := Aside0.mk H
      clear H
      have hcz7_0 : wr.cell? ⟨gb381, 0, none⟩ = some (.string a0_0) := (blk_cell BK381.out 0).trans rfl
      have hcz7_1 : wr.cell? ⟨gb381, 1, none⟩ = some (.string a0_1) := (blk_cell BK381.out 1).trans rfl
      have hcz7_2 : wr.cell? ⟨gb381, 2, none⟩ = some (.int .i64 a0_2) := (blk_cell BK381.out 2).trans rfl
      have hcz7_3 : wr.cell? ⟨gb381, 3, none⟩ = some (.string a0_3) := (blk_cell BK381.out 3).trans rfl
      have hcz7_4 : wr.cell? ⟨gb381, 4, none⟩ = some (.int .i64 a0_4) := (blk_cell BK381.out 4).trans rfl
      have hcz7_5 : wr.cell? ⟨gb381, 5, none⟩ = some (.slice A0_5 l0_5.length c0_5) := (blk_cell BK381.out 5).trans rfl
      have hfz7_0 := blk_frozen BK381.out 0
      have hfz7_1 := blk_frozen BK381.out 1
      have hfz7_2 := blk_frozen BK381.out 2
      have hfz7_3 := blk_frozen BK381.out 3
      have hfz7_4 := blk_frozen BK381.out 4
      have hfz7_5 := blk_frozen BK381.out 5
      have p382 : 0 ≤ (x4_1 : Int) := of_decide_eq_true (by first | (with_reducible assumption) | assumption)
      have q382 : x4_1 < (l0_5.length : Int) := of_decide_eq_true (by first | (with_reducible assumption) | assumption)
      obtain ⟨ad382, e382, hx382_0, hx382_1⟩ := at_T37 HR0_5.out x4_1 p382 q382
      cases e382
      replace hx382_0 := (HB.out.cell (World.block_lt_of_cell? w _ hx382_0)).trans hx382_0
      replace hx382_1 := (HB.out.cell (World.block_lt_of_cell? w _ hx382_1)).trans hx382_1
      replace p382 := eq_true p382
      replace q382 := eq_true q382
      have p383 : 0 ≤ (x4_1 : Int) := of_decide_eq_true (by first | (with_reducible assumption) | assumption)
      have q383 : x4_1 < (l0_5.length : Int) := of_decide_eq_true (by first | (with_reducible assumption) | assumption)
      obtain ⟨ad383, e383, hx383_0, hx383_1⟩ := at_T37 HR0_5.out x4_1 p383 q383
      obtain rfl : ad382 = ad383 := (by injection e383)
      replace hx383_0 := (HB.out.cell (World.block_lt_of_cell? w _ hx383_0)).trans hx383_0
      replace hx383_1 := (HB.out.cell (World.block_lt_of_cell? w _ hx383_1)).trans hx383_1
      replace p383 := eq_true p383
      replace q383 := eq_true q383
      go_wp2
      repeat (go_quiet (fail); try go_wp2)
      go_roundg k1
      case measure => have := HK1.out; omega
      case rel => exact ⟨(wrap64 ((wrap64 ((wrap64 (x3_1 + (((rd_T37 l0_5 x4_1).f0).size : Int))) + (((rd_T37 l0_5 x4_1).f1).size : Int))) + 1)), (wrap64 (x4_1 + 1)), (by first | rfl | (simp; done) | (simp [*]; done)), (by first | rfl | (simp; done) | (simp [*]; done)), H', ⟨by have := HK1.out; omega⟩, ⟨by (with_reducible repeat (first | refine blk_drewN ?_ _ | refine blk_drew ?_ | refine blk_alloc ?_ _)); exact BK381.out⟩, ⟨by repeat (first | (with_reducible first | exact HB.out | apply below_alloc | apply pw_below_drewN | apply below_drew1 | refine below_set ?_ GE381.out) | exact HB.out)⟩⟩
     ·rw [if_neg c6] at H
      exact absurd H (by simp)
    ·rw [if_neg c5] at H
     have c5b0 : decide (x3_1 < 5000) = false := decide_eq_false c5
     clear c5
     obtain rfl := Option.some.inj H
     have hcz8_0 : wr.cell? ⟨gb381, 0, none⟩ = some (.string a0_0) := (blk_cell BK381.out 0).trans rfl
     have hcz8_1 : wr.cell? ⟨gb381, 1, none⟩ = some (.string a0_1) := (blk_cell BK381.out 1).trans rfl
     have hcz8_2 : wr.cell? ⟨gb381, 2, none⟩ = some (.int .i64 a0_2) := (blk_cell BK381.out 2).trans rfl
     have hcz8_3 : wr.cell? ⟨gb381, 3, none⟩ = some (.string a0_3) := (blk_cell BK381.out 3).trans rfl
     have hcz8_4 : wr.cell? ⟨gb381, 4, none⟩ = some (.int .i64 a0_4) := (blk_cell BK381.out 4).trans rfl
     have hcz8_5 : wr.cell? ⟨gb381, 5, none⟩ = some (.slice A0_5 l0_5.length c0_5) := (blk_cell BK381.out 5).trans rfl
     have hfz8_0 := blk_frozen BK381.out 0
     have hfz8_1 := blk_frozen BK381.out 1
     have hfz8_2 := blk_frozen BK381.out 2
     have hfz8_3 := blk_frozen BK381.out 3
     have hfz8_4 := blk_frozen BK381.out 4
     have hfz8_5 := blk_frozen BK381.out 5
     go_wp2
     repeat (go_quiet (fail); try go_wp2)
     go_ret
     exact ⟨by first | rfl | (simp [errW_none, errW_some] <;> rfl) | (simp [*, errW_none, errW_some] <;> rfl), by repeat (first | (with_reducible first | exact HB.out | apply below_alloc | apply pw_below_drewN | apply below_drew1 | refine below_set ?_ GE381.out) | exact HB.out)⟩
   ·rw [if_neg c4] at H
    have c4b0 : decide (x4_1 < (l0_5.length : Int)) = false := decide_eq_false c4
    clear c4
    obtain rfl := Option.some.inj H
    have hcz9_0 : wr.cell? ⟨gb381, 0, none⟩ = some (.string a0_0) := (blk_cell BK381.out 0).trans rfl
    have hcz9_1 : wr.cell? ⟨gb381, 1, none⟩ = some (.string a0_1) := (blk_cell BK381.out 1).trans rfl
    have hcz9_2 : wr.cell? ⟨gb381, 2, none⟩ = some (.int .i64 a0_2) := (blk_cell BK381.out 2).trans rfl
    have hcz9_3 : wr.cell? ⟨gb381, 3, none⟩ = some (.string a0_3) := (blk_cell BK381.out 3).trans rfl
    have hcz9_4 : wr.cell? ⟨gb381, 4, none⟩ = some (.int .i64 a0_4) := (blk_cell BK381.out 4).trans rfl
    have hcz9_5 : wr.cell? ⟨gb381, 5, none⟩ = some (.slice A0_5 l0_5.length c0_5) := (blk_cell BK381.out 5).trans rfl
    have hfz9_0 := blk_frozen BK381.out 0
    have hfz9_1 := blk_frozen BK381.out 1
    have hfz9_2 := blk_frozen BK381.out 2
    have hfz9_3 := blk_frozen BK381.out 3
    have hfz9_4 := blk_frozen BK381.out 4
    have hfz9_5 := blk_frozen BK381.out 5
    go_wp2
    repeat (go_quiet (fail); try go_wp2)
    go_ret
    exact ⟨by first | rfl | (simp [errW_none, errW_some] <;> rfl) | (simp [*, errW_none, errW_some] <;> rfl), by repeat (first | (with_reducible first | exact HB.out | apply below_alloc | apply pw_below_drewN | apply below_drew1 | refine below_set ?_ GE381.out) | exact HB.out)⟩

end Go.Proofs.YtemhokkfefidlaaGreatDoor.P
