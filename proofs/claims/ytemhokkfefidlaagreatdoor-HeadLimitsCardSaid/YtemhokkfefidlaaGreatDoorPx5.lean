/- Printed by a program of the session out of the translation: plain Lean functions, each with the contract that the Go function computes it. -/
import Derived.Test.YtemhokkfefidlaaGreatDoorHZ
import Derived.Test.YtemhokkfefidlaaGreatDoorPx0
import Derived.Test.YtemhokkfefidlaaGreatDoorPx3
import Derived.Test.YtemhokkfefidlaaGreatDoorPx4
import Derived.Test.YtemhokkfefidlaaGreatDoorHZB
namespace Go.Proofs.YtemhokkfefidlaaGreatDoor.P
open Go.RowKit Go.Proofs.YtemhokkfefidlaaGreatDoorW.PrintWords Go.Proofs.YtemhokkfefidlaaGreatDoorW.PrintLast Go.Proofs.YtemhokkfefidlaaGreatDoorW.PrintMore
attribute [local go_sem] max2_int min2_int max_two min_two max_three min_three max_four min_four   -- for this text's walks alone
set_option linter.unusedVariables false
set_option linter.unusedSimpArgs false

def head_answer.j0 : Nat → List ByteArray → Bool → ByteArray → ByteArray → Int → ByteArray → Int → Option (ByteArray × ByteArray × Int × ByteArray × Int × (List (S37)) × Int)
 | 0, _, _, _, _, _, _, _ => none
 | k + 1, x0, x25, x120000, x120001, x120002, x120003, x120004 => if x25 = true then (some (x120000, x120001, x120002, x120003, x120004, ([] : List (S37)), 20)) else (if 0 < (x0.length : Int) then ((head_version.f k (rdOf ByteArray.empty x0 0)).bind fun bt126 => (if bt126.2 = 0 then (if 1 < (x0.length : Int) then ((num_Parse.f k (rdOf ByteArray.empty x0 1) 10).bind fun bt129 => ((head_status.f bt129.1).bind fun t131 => (if t131 = true then (some (x120000, x120001, bt129.1, x120003, bt126.1, ([] : List (S37)), 0)) else (some (x120000, x120001, bt129.1, x120003, bt126.1, ([] : List (S37)), 20))))) else (none)) else (some (x120000, x120001, x120002, x120003, bt126.1, ([] : List (S37)), bt126.2)))) else (none))
def head_answer.f (k : Nat) (l0 : List ByteArray) : Option (ByteArray × ByteArray × Int × ByteArray × Int × (List (S37)) × Int) := if 2 < (l0.length : Int) then (if 1 < (l0.length : Int) then (if ((rdOf ByteArray.empty l0 1).size : Int) = 3 then ((head_digits.f k (rdOf ByteArray.empty l0 1)).bind fun t123 => (if t123 = true then ((head_reason.f k (rdOf ByteArray.empty l0 2)).bind fun t124 => (head_answer.j0 k l0 (!t124) (⟨#[]⟩ : ByteArray) (⟨#[]⟩ : ByteArray) 0 (rdOf ByteArray.empty l0 2) 0)) else (head_answer.j0 k l0 true (⟨#[]⟩ : ByteArray) (⟨#[]⟩ : ByteArray) 0 (rdOf ByteArray.empty l0 2) 0))) else (head_answer.j0 k l0 true (⟨#[]⟩ : ByteArray) (⟨#[]⟩ : ByteArray) 0 (rdOf ByteArray.empty l0 2) 0)) else (none)) else (none)
theorem head_answer.mono_l : ∀ k, (∀ y0 y1 y2 y3 y4 y5 y6, LeO (head_answer.j0 k y0 y1 y2 y3 y4 y5 y6) (head_answer.j0 (k + 1) y0 y1 y2 y3 y4 y5 y6))
 | 0 => fun _ _ _ _ _ _ _ r h => by simp [head_answer.j0] at h
 | k + 1 => by
  have ih0 := head_answer.mono_l k
  ·intro y0 y1 y2 y3 y4 y5 y6
   unfold head_answer.j0
   repeat' first
   | (with_reducible exact ih0 _ _ _ _ _ _ _)
   | (with_reducible exact head_digits.mono _ _)
   | (with_reducible exact head_reason.mono _ _)
   | (with_reducible exact head_version.mono _ _)
   | (with_reducible exact num_Parse.mono _ _ _)
   | (with_reducible exact LeO.refl _)
   | (with_reducible exact LeO.none _)
   | (with_reducible refine LeO.ite ?_ ?_)
   | (with_reducible refine LeO.bind ?_ (fun _ => ?_))
   | exact ih0 _ _ _ _ _ _ _
   | exact head_digits.mono _ _
   | exact head_reason.mono _ _
   | exact head_version.mono _ _
   | exact num_Parse.mono _ _ _
   | exact LeO.none _
   | refine LeO.ite ?_ ?_
   | refine LeO.bind ?_ (fun _ => ?_)
theorem head_answer.mono : ∀ a0 k, LeO (head_answer.f k a0) (head_answer.f (k + 1) a0) := by
 intro a0 k
 have ih0 := head_answer.mono_l k
 unfold head_answer.f
 repeat' first
   | (with_reducible exact ih0 _ _ _ _ _ _ _)
   | (with_reducible exact head_digits.mono _ _)
   | (with_reducible exact head_reason.mono _ _)
   | (with_reducible exact head_version.mono _ _)
   | (with_reducible exact num_Parse.mono _ _ _)
   | (with_reducible exact LeO.refl _)
   | (with_reducible exact LeO.none _)
   | (with_reducible refine LeO.ite ?_ ?_)
   | (with_reducible refine LeO.bind ?_ (fun _ => ?_))
   | exact ih0 _ _ _ _ _ _ _
   | exact head_digits.mono _ _
   | exact head_reason.mono _ _
   | exact head_version.mono _ _
   | exact num_Parse.mono _ _ _
   | exact LeO.none _
   | refine LeO.ite ?_ ?_
   | refine LeO.bind ?_ (fun _ => ?_)
set_option maxHeartbeats 8000000 in
set_option maxRecDepth 100000 in
theorem head_answer.calls (k : Nat) (A0 : Option Addr) (c0 : Nat) (l0 : List ByteArray) (r1 : ByteArray) (r2 : ByteArray) (r3 : Int) (r4 : ByteArray) (r5 : Int) (r6 : List (S37)) (r7 : Int) (w : World) (hr0 : Kd.C Kd.string w A0 l0.length l0) (hc0 : l0.length ≤ c0) (h : head_answer.f k l0 = some (r1, r2, r3, r4, r5, r6, r7)) :
  Calls Tryz.prog 27 #[.slice A0 l0.length c0] w fun e w' => ∃ v5_ : Value, e = .returned (.tuple #[.agg #[.string r1, .string r2, .int .i64 r3, .string r4, .int .i64 r5, v5_], .int .i64 r7]) ∧ Kd.R k37 37 w' w.heap.size (fun _ => True) v5_ r6 ∧ Below w.heap.size w w' := by
 have hu30 := Tryz.underlying30
 have HR0 := aM hr0
 have HC0 := aM hc0
 clear hr0 hc0
 have HB := aM (Below.refl w.heap.size w)
 have H : (if 2 < (l0.length : Int) then (if 1 < (l0.length : Int) then (if ((rdOf ByteArray.empty l0 1).size : Int) = 3 then ((head_digits.f k (rdOf ByteArray.empty l0 1)).bind fun t123 => (if t123 = true then ((head_reason.f k (rdOf ByteArray.empty l0 2)).bind fun t124 => (head_answer.j0 k l0 (!t124) (⟨#[]⟩ : ByteArray) (⟨#[]⟩ : ByteArray) 0 (rdOf ByteArray.empty l0 2) 0)) else (head_answer.j0 k l0 true (⟨#[]⟩ : ByteArray) (⟨#[]⟩ : ByteArray) 0 (rdOf ByteArray.empty l0 2) 0))) else (head_answer.j0 k l0 true (⟨#[]⟩ : ByteArray) (⟨#[]⟩ : ByteArray) 0 (rdOf ByteArray.empty l0 2) 0)) else (none)) else (none)) = some (r1, r2, r3, r4, r5, r6, r7) := h
 clear h
 by_cases c2 : 2 < (l0.length : Int)
 ·rw [if_pos c2] at H
  have c2b0 : decide (2 < (l0.length : Int)) = true := decide_eq_true c2
  have c2b1 : decide (2 < l0.length) = true := decide_eq_true (by omega)
  clear c2
  have HC3 := aM H
  clear H
  go_enter Tryz.func27, Tryz.ntmps27
  go_upto_region 2 with (first | ((with_reducible refine gate_dst (N := 2) rfl ?_); refine box_event ?hg (N := 2) ?hd (cs := #[.string (⟨#[]⟩ : ByteArray), .string (⟨#[]⟩ : ByteArray), .int .i64 0, .string (⟨#[]⟩ : ByteArray), .int .i64 0, .slice none 0 0]) (t := 30) ?hr ?_; (case hd => rfl); (case hg => rfl); (case hr => first | (go_simp; done) | (go_simp; rfl)); intro gb119 hg w4 hbox hb; have n0_ := aM (below_step (by repeat (first | (with_reducible first | exact HB.out | apply lA | apply lN | apply lD) | exact HB.out)) hb); have n1_ := aM (hbox); have n2_ := aM ((by rw [hg]; exact (below_size (by repeat (first | (with_reducible first | exact HB.out | apply lA | apply lN | apply lD) | exact HB.out))) : w.heap.size ≤ gb119)); have n3_ := n2_; clear HB; have HB := n0_; have BK119 := n1_; have GW119 := n2_; have GE119 := n3_; clear n0_ n1_ n2_ n3_; clear hb hbox hg; have p120 : 0 ≤ (2 : Int) := (by omega); have q120 : 2 < (l0.length : Int) := of_decide_eq_true (by first | (with_reducible assumption) | assumption); obtain ⟨ad120, e120, hx120_0⟩ := Kd.at_string HR0.out 2 p120 q120; cases e120; (try simp only [show (2 : Int).toNat = 2 from rfl, Nat.reduceMul, Nat.reduceEqDiff, Go.Addr.add, ↓reduceIte] at hx120_0); have qi120 : (2 < l0.length) = True := eq_true (by omega); (try rw [show ((2 : Int)).toNat = 2 from rfl] at hx120_0); replace hx120_0 := (HB.out.cell (World.block_lt_of_cell? w _ hx120_0)).trans hx120_0; replace p120 := eq_true p120; replace q120 := eq_true q120; obtain ⟨hcz5_0, hcz5_1, hcz5_2, hcz5_3, hcz5_4, hcz5_5, hfz5_0, hfz5_1, hfz5_2, hfz5_3, hfz5_4, hfz5_5⟩ := cz6 BK119.out))
  (try simp only [Act.put, List.setIfInBounds_toArray, List.set_cons_zero, List.set_cons_succ])
  go_cut [25] (fun v25 wc => ∃ (kq : Nat) (x25_2 : Bool), v25 = .bool x25_2 ∧ Aside0 (head_answer.j0 kq l0 x25_2 (⟨#[]⟩ : ByteArray) (⟨#[]⟩ : ByteArray) 0 (rdOf ByteArray.empty l0 2) 0 = some (r1, r2, r3, r4, r5, r6, r7)) ∧ Aside0 (kq ≤ k) ∧ Aside0 (wc.heap[gb119]? = some (.cells #[.string (⟨#[]⟩ : ByteArray), .string (⟨#[]⟩ : ByteArray), .int .i64 0, .string (rdOf ByteArray.empty l0 2), .int .i64 0, (.slice none 0 0)] 30 (0, 0))) ∧ Aside0 (Below w.heap.size w wc))
  case first =>
   have H := HC3.out
   clear HC3
   by_cases c6 : 1 < (l0.length : Int)
   ·rw [if_pos c6] at H
    have c6b0 : decide (1 < (l0.length : Int)) = true := decide_eq_true c6
    have c6b1 : decide (1 < l0.length) = true := decide_eq_true (by omega)
    clear c6
    (first | rw [c6b0] | (simp only [i64_w, i32_w]; rw [c6b0]) | skip)
    by_cases c7 : ((rdOf ByteArray.empty l0 1).size : Int) = 3
    ·rw [if_pos c7] at H
     have c7b0 : (((rdOf ByteArray.empty l0 1).size : Int) == 3) = true := beq_iff_eq.mpr c7
     have c7b1 : (((rdOf ByteArray.empty l0 1).size : Int) != 3) = false := bne_eq_false_iff_eq.mpr c7
     clear c7
     replace H := Option.bind_eq_some_iff.mp H
     obtain ⟨t123, A80, H⟩ := H
     replace H : (if t123 = true then ((head_reason.f k (rdOf ByteArray.empty l0 2)).bind fun t124 => (head_answer.j0 k l0 (!t124) (⟨#[]⟩ : ByteArray) (⟨#[]⟩ : ByteArray) 0 (rdOf ByteArray.empty l0 2) 0)) else (head_answer.j0 k l0 true (⟨#[]⟩ : ByteArray) (⟨#[]⟩ : ByteArray) 0 (rdOf ByteArray.empty l0 2) 0)) = some (r1, r2, r3, r4, r5, r6, r7) := H
     have A8 := aM A80
     clear A80
     by_cases c9 : t123 = true
     ·subst c9
      have H1 : ((head_reason.f k (rdOf ByteArray.empty l0 2)).bind fun t124 => (head_answer.j0 k l0 (!t124) (⟨#[]⟩ : ByteArray) (⟨#[]⟩ : ByteArray) 0 (rdOf ByteArray.empty l0 2) 0)) = some (r1, r2, r3, r4, r5, r6, r7) := by rw [if_pos rfl] at H; exact H
      clear H
      have H := H1
      clear H1
      replace H := Option.bind_eq_some_iff.mp H
      obtain ⟨t124, A100, H⟩ := H
      replace H : (head_answer.j0 k l0 (!t124) (⟨#[]⟩ : ByteArray) (⟨#[]⟩ : ByteArray) 0 (rdOf ByteArray.empty l0 2) 0) = some (r1, r2, r3, r4, r5, r6, r7) := H
      have A10 := aM A100
      clear A100
      have H' := aM H
      clear H
      have p121 : 0 ≤ (1 : Int) := (by omega)
      have q121 : 1 < (l0.length : Int) := of_decide_eq_true (by first | (with_reducible assumption) | assumption)
      obtain ⟨ad121, e121, hx121_0⟩ := Kd.at_string HR0.out 1 p121 q121
      obtain rfl : ad120 = ad121 := (by injection e121)
      (try simp only [show (1 : Int).toNat = 1 from rfl, Nat.reduceMul, Nat.reduceEqDiff, Go.Addr.add, ↓reduceIte] at hx121_0)
      have qi121 : (1 < l0.length) = True := eq_true (by omega)
      (try rw [show ((1 : Int)).toNat = 1 from rfl] at hx121_0)
      have hn121_0 : ad120.block ≠ gb119 := Nat.ne_of_lt (Nat.lt_of_lt_of_le (by have := World.block_lt_of_cell? _ _ hx121_0; first | rwa [add_block] at this | exact this) GW119.out)
      replace hx121_0 := (HB.out.cell (World.block_lt_of_cell? w _ hx121_0)).trans hx121_0
      replace hx121_0 := (cell_far (p := ⟨gb119, 3, none⟩) (by first | (rw [add_block]; exact hn121_0) | (show (Addr.add _ _).block ≠ _; rw [add_block]; exact hn121_0) | exact hn121_0) (.string (rdOf ByteArray.empty l0 2))).trans hx121_0
      clear hn121_0
      replace p121 := eq_true p121
      replace q121 := eq_true q121
      have p122 : 0 ≤ (1 : Int) := (by omega)
      have q122 : 1 < (l0.length : Int) := of_decide_eq_true (by first | (with_reducible assumption) | assumption)
      obtain ⟨ad122, e122, hx122_0⟩ := Kd.at_string HR0.out 1 p122 q122
      obtain rfl : ad120 = ad122 := (by injection e122)
      (try simp only [show (1 : Int).toNat = 1 from rfl, Nat.reduceMul, Nat.reduceEqDiff, Go.Addr.add, ↓reduceIte] at hx122_0)
      have qi122 : (1 < l0.length) = True := eq_true (by omega)
      (try rw [show ((1 : Int)).toNat = 1 from rfl] at hx122_0)
      have hn122_0 : ad120.block ≠ gb119 := Nat.ne_of_lt (Nat.lt_of_lt_of_le (by have := World.block_lt_of_cell? _ _ hx122_0; first | rwa [add_block] at this | exact this) GW119.out)
      replace hx122_0 := (HB.out.cell (World.block_lt_of_cell? w _ hx122_0)).trans hx122_0
      replace hx122_0 := (cell_far (p := ⟨gb119, 3, none⟩) (by first | (rw [add_block]; exact hn122_0) | (show (Addr.add _ _).block ≠ _; rw [add_block]; exact hn122_0) | exact hn122_0) (.string (rdOf ByteArray.empty l0 2))).trans hx122_0
      clear hn122_0
      replace p122 := eq_true p122
      replace q122 := eq_true q122
      go_wp2_with (first | (go_at_call 51; (with_reducible refine (head_digits.calls k (rdOf ByteArray.empty l0 1) true _ A8.out).mono ?_); rintro e w' ⟨rfl, ⟨nd, rfl⟩⟩; obtain ⟨hcz11_0, hcz11_1, hcz11_2, hcz11_3, hcz11_4, hcz11_5, hfz11_0, hfz11_1, hfz11_2, hfz11_3, hfz11_4, hfz11_5⟩ := cz6 BK119.out) | (go_at_call 36; (with_reducible refine (head_reason.calls k (rdOf ByteArray.empty l0 2) t124 _ A10.out).mono ?_); rintro e w' ⟨rfl, ⟨nd, rfl⟩⟩))
      go_meet
      case rel => exact ⟨_, (!t124), (by first | rfl | (simp; done) | (simp [*]; done)), H', ⟨by first | omega | exact Nat.le_refl _⟩, ⟨by (with_reducible repeat (first | refine bN ?_ _ | refine bD ?_ | refine bA ?_ _)); refine blk_put (cs := #[.string (⟨#[]⟩ : ByteArray), .string (⟨#[]⟩ : ByteArray), .int .i64 0, .string (⟨#[]⟩ : ByteArray), .int .i64 0, .slice none 0 0]) ?_ 3 _ rfl; (with_reducible repeat (first | refine bN ?_ _ | refine bD ?_ | refine bA ?_ _)); exact BK119.out⟩, ⟨by repeat (first | (with_reducible first | exact HB.out | apply lA | apply lN | apply lD | refine below_set ?_ GE119.out) | exact HB.out)⟩⟩
     ·replace c9 := Bool.eq_false_iff.mpr c9
      subst c9
      have H1 : (head_answer.j0 k l0 true (⟨#[]⟩ : ByteArray) (⟨#[]⟩ : ByteArray) 0 (rdOf ByteArray.empty l0 2) 0) = some (r1, r2, r3, r4, r5, r6, r7) := by rw [if_neg (show ¬ (false = true) by decide)] at H; exact H
      clear H
      have H := H1
      clear H1
      have H' := aM H
      clear H
      have p121 : 0 ≤ (1 : Int) := (by omega)
      have q121 : 1 < (l0.length : Int) := of_decide_eq_true (by first | (with_reducible assumption) | assumption)
      obtain ⟨ad121, e121, hx121_0⟩ := Kd.at_string HR0.out 1 p121 q121
      obtain rfl : ad120 = ad121 := (by injection e121)
      (try simp only [show (1 : Int).toNat = 1 from rfl, Nat.reduceMul, Nat.reduceEqDiff, Go.Addr.add, ↓reduceIte] at hx121_0)
      have qi121 : (1 < l0.length) = True := eq_true (by omega)
      (try rw [show ((1 : Int)).toNat = 1 from rfl] at hx121_0)
      have hn121_0 : ad120.block ≠ gb119 := Nat.ne_of_lt (Nat.lt_of_lt_of_le (by have := World.block_lt_of_cell? _ _ hx121_0; first | rwa [add_block] at this | exact this) GW119.out)
      replace hx121_0 := (HB.out.cell (World.block_lt_of_cell? w _ hx121_0)).trans hx121_0
      replace hx121_0 := (cell_far (p := ⟨gb119, 3, none⟩) (by first | (rw [add_block]; exact hn121_0) | (show (Addr.add _ _).block ≠ _; rw [add_block]; exact hn121_0) | exact hn121_0) (.string (rdOf ByteArray.empty l0 2))).trans hx121_0
      clear hn121_0
      replace p121 := eq_true p121
      replace q121 := eq_true q121
      have p122 : 0 ≤ (1 : Int) := (by omega)
      have q122 : 1 < (l0.length : Int) := of_decide_eq_true (by first | (with_reducible assumption) | assumption)
      obtain ⟨ad122, e122, hx122_0⟩ := Kd.at_string HR0.out 1 p122 q122
      obtain rfl : ad120 = ad122 := (by injection e122)
      (try simp only [show (1 : Int).toNat = 1 from rfl, Nat.reduceMul, Nat.reduceEqDiff, Go.Addr.add, ↓reduceIte] at hx122_0)
      have qi122 : (1 < l0.length) = True := eq_true (by omega)
      (try rw [show ((1 : Int)).toNat = 1 from rfl] at hx122_0)
      have hn122_0 : ad120.block ≠ gb119 := Nat.ne_of_lt (Nat.lt_of_lt_of_le (by have := World.block_lt_of_cell? _ _ hx122_0; first | rwa [add_block] at this | exact this) GW119.out)
      replace hx122_0 := (HB.out.cell (World.block_lt_of_cell? w _ hx122_0)).trans hx122_0
      replace hx122_0 := (cell_far (p := ⟨gb119, 3, none⟩) (by first | (rw [add_block]; exact hn122_0) | (show (Addr.add _ _).block ≠ _; rw [add_block]; exact hn122_0) | exact hn122_0) (.string (rdOf ByteArray.empty l0 2))).trans hx122_0
      clear hn122_0
      replace p122 := eq_true p122
      replace q122 := eq_true q122
      go_wp2_with (first | (go_at_call 51; (with_reducible refine (head_digits.calls k (rdOf ByteArray.empty l0 1) false _ A8.out).mono ?_); rintro e w' ⟨rfl, ⟨nd, rfl⟩⟩))
      go_meet
      case rel => exact ⟨_, (true), (by first | rfl | (simp; done) | (simp [*]; done)), H', ⟨by first | omega | exact Nat.le_refl _⟩, ⟨by (with_reducible repeat (first | refine bN ?_ _ | refine bD ?_ | refine bA ?_ _)); refine blk_put (cs := #[.string (⟨#[]⟩ : ByteArray), .string (⟨#[]⟩ : ByteArray), .int .i64 0, .string (⟨#[]⟩ : ByteArray), .int .i64 0, .slice none 0 0]) ?_ 3 _ rfl; (with_reducible repeat (first | refine bN ?_ _ | refine bD ?_ | refine bA ?_ _)); exact BK119.out⟩, ⟨by repeat (first | (with_reducible first | exact HB.out | apply lA | apply lN | apply lD | refine below_set ?_ GE119.out) | exact HB.out)⟩⟩
    ·rw [if_neg c7] at H
     have c7b0 : (((rdOf ByteArray.empty l0 1).size : Int) == 3) = false := beq_eq_false_iff_ne.mpr c7
     have c7b1 : (((rdOf ByteArray.empty l0 1).size : Int) != 3) = true := bne_iff_ne.mpr c7
     have H' := aM H
     clear H
     have p121 : 0 ≤ (1 : Int) := (by omega)
     have q121 : 1 < (l0.length : Int) := of_decide_eq_true (by first | (with_reducible assumption) | assumption)
     obtain ⟨ad121, e121, hx121_0⟩ := Kd.at_string HR0.out 1 p121 q121
     obtain rfl : ad120 = ad121 := (by injection e121)
     (try simp only [show (1 : Int).toNat = 1 from rfl, Nat.reduceMul, Nat.reduceEqDiff, Go.Addr.add, ↓reduceIte] at hx121_0)
     have qi121 : (1 < l0.length) = True := eq_true (by omega)
     (try rw [show ((1 : Int)).toNat = 1 from rfl] at hx121_0)
     have hn121_0 : ad120.block ≠ gb119 := Nat.ne_of_lt (Nat.lt_of_lt_of_le (by have := World.block_lt_of_cell? _ _ hx121_0; first | rwa [add_block] at this | exact this) GW119.out)
     replace hx121_0 := (HB.out.cell (World.block_lt_of_cell? w _ hx121_0)).trans hx121_0
     replace hx121_0 := (cell_far (p := ⟨gb119, 3, none⟩) (by first | (rw [add_block]; exact hn121_0) | (show (Addr.add _ _).block ≠ _; rw [add_block]; exact hn121_0) | exact hn121_0) (.string (rdOf ByteArray.empty l0 2))).trans hx121_0
     clear hn121_0
     replace p121 := eq_true p121
     replace q121 := eq_true q121
     go_wp2
     go_meet
     case rel => exact ⟨_, (true), (by first | rfl | (simp; done) | (simp [*]; done)), H', ⟨by first | omega | exact Nat.le_refl _⟩, ⟨by (with_reducible repeat (first | refine bN ?_ _ | refine bD ?_ | refine bA ?_ _)); refine blk_put (cs := #[.string (⟨#[]⟩ : ByteArray), .string (⟨#[]⟩ : ByteArray), .int .i64 0, .string (⟨#[]⟩ : ByteArray), .int .i64 0, .slice none 0 0]) ?_ 3 _ rfl; (with_reducible repeat (first | refine bN ?_ _ | refine bD ?_ | refine bA ?_ _)); exact BK119.out⟩, ⟨by repeat (first | (with_reducible first | exact HB.out | apply lA | apply lN | apply lD | refine below_set ?_ GE119.out) | exact HB.out)⟩⟩
   ·rw [if_neg c6] at H
    exact absurd H (by simp)
  case rest =>
   clear HC3
   try clear p1
   try clear q1
   try clear hx1
   try clear qi1
   try clear c2
   try clear c2b0
   try clear c2b1
   try clear p2
   try clear c6
   try clear c6b0
   try clear c6b1
   try clear c7
   try clear c7b0
   try clear c7b1
   try clear c9
   try clear hcz11_0
   try clear hcz11_1
   try clear hcz11_2
   try clear hcz11_3
   try clear hcz11_4
   try clear hcz11_5
   try clear hcz5_0
   try clear hcz5_1
   try clear hcz5_2
   try clear hcz5_3
   try clear hcz5_4
   try clear hcz5_5
   try clear hfz11_0
   try clear hfz11_1
   try clear hfz11_2
   try clear hfz11_3
   try clear hfz11_4
   try clear hfz11_5
   try clear hfz5_0
   try clear hfz5_1
   try clear hfz5_2
   try clear hfz5_3
   try clear hfz5_4
   try clear hfz5_5
   try clear hx120_0
   try clear hx121_0
   try clear hx122_0
   try clear p120
   try clear p121
   try clear p122
   try clear q120
   try clear q121
   try clear q122
   obtain ⟨kq, x25_2, rfl, HA, HJ2, BK119, HB⟩ := hcut
   cases kq with
   | zero => exact absurd HA.out (by simp [head_answer.j0])
   | succ kj2 =>
    have H := HA.out
    clear HA
    simp only [head_answer.j0] at H
    by_cases c12 : x25_2 = true
    ·subst c12
     have H1 : (some ((⟨#[]⟩ : ByteArray), (⟨#[]⟩ : ByteArray), 0, (rdOf ByteArray.empty l0 2), 0, ([] : List (S37)), 20)) = some (r1, r2, r3, r4, r5, r6, r7) := by rw [if_pos rfl] at H; exact H
     clear H
     have H := H1
     clear H1
     simp only [Option.some.injEq, Prod.mk.injEq] at H
     obtain ⟨rfl, rfl, rfl, rfl, rfl, rfl, rfl⟩ := H
     obtain ⟨hcz13_0, hcz13_1, hcz13_2, hcz13_3, hcz13_4, hcz13_5, hfz13_0, hfz13_1, hfz13_2, hfz13_3, hfz13_4, hfz13_5⟩ := cz6 BK119.out
     go_wp2
     refine bodyPost_ret (results_ct rfl _ _ gb119 30 #[.string (⟨#[]⟩ : ByteArray), .string (⟨#[]⟩ : ByteArray), .int .i64 0, .string (rdOf ByteArray.empty l0 2), .int .i64 0, .slice none 0 0] (0, 0) _ rfl (by (repeat (first | (with_reducible first | refine bN ?_ _ | refine bD ?_ | refine bA ?_ _ | apply p6_5 | apply p6_4 | apply p6_3 | apply p6_2 | apply p6_1 | apply p6_0))); exact BK119.out) Tryz.underlying30 rfl (by kernel_rfl)) rfl ?_
     exact ⟨_, by first | rfl | (simp [errW_none, errW_some] <;> rfl) | (simp [*, errW_none, errW_some] <;> rfl), by first | exact Kd.R_nil _ _ _ _ _ | exact Kd.N_nil _ _ _ _ _ | exact Kd.V_nil _ _ _ _ _ | exact Kd.Q_nil _ _ _ _ _ | exact Kd.S_nil _ _ _ _ _, by repeat (first | (with_reducible first | exact HB.out | apply lA | apply lN | apply lD | refine below_set ?_ GE119.out) | exact HB.out)⟩
    ·replace c12 := Bool.eq_false_iff.mpr c12
     subst c12
     have H1 : (if 0 < (l0.length : Int) then ((head_version.f kj2 (rdOf ByteArray.empty l0 0)).bind fun bt126 => (if bt126.2 = 0 then (if 1 < (l0.length : Int) then ((num_Parse.f kj2 (rdOf ByteArray.empty l0 1) 10).bind fun bt129 => ((head_status.f bt129.1).bind fun t131 => (if t131 = true then (some ((⟨#[]⟩ : ByteArray), (⟨#[]⟩ : ByteArray), bt129.1, (rdOf ByteArray.empty l0 2), bt126.1, ([] : List (S37)), 0)) else (some ((⟨#[]⟩ : ByteArray), (⟨#[]⟩ : ByteArray), bt129.1, (rdOf ByteArray.empty l0 2), bt126.1, ([] : List (S37)), 20))))) else (none)) else (some ((⟨#[]⟩ : ByteArray), (⟨#[]⟩ : ByteArray), 0, (rdOf ByteArray.empty l0 2), bt126.1, ([] : List (S37)), bt126.2)))) else (none)) = some (r1, r2, r3, r4, r5, r6, r7) := by rw [if_neg (show ¬ (false = true) by decide)] at H; exact H
     clear H
     have H := H1
     clear H1
     by_cases c14 : 0 < (l0.length : Int)
     ·rw [if_pos c14] at H
      have c14b0 : decide (0 < (l0.length : Int)) = true := decide_eq_true c14
      have c14b1 : decide (0 < l0.length) = true := decide_eq_true (by omega)
      clear c14
      replace H := Option.bind_eq_some_iff.mp H
      obtain ⟨⟨t126, t127⟩, A150, H⟩ := H
      replace H : (if t127 = 0 then (if 1 < (l0.length : Int) then ((num_Parse.f kj2 (rdOf ByteArray.empty l0 1) 10).bind fun bt129 => ((head_status.f bt129.1).bind fun t131 => (if t131 = true then (some ((⟨#[]⟩ : ByteArray), (⟨#[]⟩ : ByteArray), bt129.1, (rdOf ByteArray.empty l0 2), t126, ([] : List (S37)), 0)) else (some ((⟨#[]⟩ : ByteArray), (⟨#[]⟩ : ByteArray), bt129.1, (rdOf ByteArray.empty l0 2), t126, ([] : List (S37)), 20))))) else (none)) else (some ((⟨#[]⟩ : ByteArray), (⟨#[]⟩ : ByteArray), 0, (rdOf ByteArray.empty l0 2), t126, ([] : List (S37)), t127))) = some (r1, r2, r3, r4, r5, r6, r7) := H
      have A15 := aM A150
      clear A150
      by_cases c16 : t127 = 0
      ·rw [if_pos c16] at H
       have c16b0 : (t127 == 0) = true := beq_iff_eq.mpr c16
       have c16b1 : (t127 != 0) = false := bne_eq_false_iff_eq.mpr c16
       clear c16
       by_cases c17 : 1 < (l0.length : Int)
       ·rw [if_pos c17] at H
        have c17b0 : decide (1 < (l0.length : Int)) = true := decide_eq_true c17
        have c17b1 : decide (1 < l0.length) = true := decide_eq_true (by omega)
        clear c17
        replace H := Option.bind_eq_some_iff.mp H
        obtain ⟨⟨t129, t130⟩, A180, H⟩ := H
        replace H : ((head_status.f t129).bind fun t131 => (if t131 = true then (some ((⟨#[]⟩ : ByteArray), (⟨#[]⟩ : ByteArray), t129, (rdOf ByteArray.empty l0 2), t126, ([] : List (S37)), 0)) else (some ((⟨#[]⟩ : ByteArray), (⟨#[]⟩ : ByteArray), t129, (rdOf ByteArray.empty l0 2), t126, ([] : List (S37)), 20)))) = some (r1, r2, r3, r4, r5, r6, r7) := H
        have A18 := aM A180
        clear A180
        replace H := Option.bind_eq_some_iff.mp H
        obtain ⟨t131, A190, H⟩ := H
        replace H : (if t131 = true then (some ((⟨#[]⟩ : ByteArray), (⟨#[]⟩ : ByteArray), t129, (rdOf ByteArray.empty l0 2), t126, ([] : List (S37)), 0)) else (some ((⟨#[]⟩ : ByteArray), (⟨#[]⟩ : ByteArray), t129, (rdOf ByteArray.empty l0 2), t126, ([] : List (S37)), 20))) = some (r1, r2, r3, r4, r5, r6, r7) := H
        have A19 := aM A190
        clear A190
        by_cases c20 : t131 = true
        ·subst c20
         have H1 : (some ((⟨#[]⟩ : ByteArray), (⟨#[]⟩ : ByteArray), t129, (rdOf ByteArray.empty l0 2), t126, ([] : List (S37)), 0)) = some (r1, r2, r3, r4, r5, r6, r7) := by rw [if_pos rfl] at H; exact H
         clear H
         have H := H1
         clear H1
         simp only [Option.some.injEq, Prod.mk.injEq] at H
         obtain ⟨rfl, rfl, rfl, rfl, rfl, rfl, rfl⟩ := H
         have p125 : 0 ≤ (0 : Int) := (by omega)
         have q125 : 0 < (l0.length : Int) := of_decide_eq_true (by first | (with_reducible assumption) | assumption)
         obtain ⟨ad125, e125, hx125_0⟩ := Kd.at_string HR0.out 0 p125 q125
         obtain rfl : ad120 = ad125 := (by injection e125)
         have qi125 : (0 < l0.length) = True := eq_true (by omega)
         (try rw [show ((0 : Int)).toNat = 0 from rfl] at hx125_0)
         (try rw [Addr.add_zero'] at hx125_0)
         replace hx125_0 := (HB.out.cell (World.block_lt_of_cell? w _ hx125_0)).trans hx125_0
         replace p125 := eq_true p125
         replace q125 := eq_true q125
         go_wp2_with (first | ((with_reducible refine gate_callee (f := 50) rfl ?_); refine goesL_ (some 31) rfl rfl Tryz.func50 (by kernel_rfl) rfl #[.string (rdOf ByteArray.empty l0 0)] rfl (by (try simp only [List.map_toArray, List.map_cons, List.map_nil]); first | done | rfl | (simp only [List.length_drop, List.length_take]; rfl)) ?_; (with_reducible refine (head_version.calls kj2 (rdOf ByteArray.empty l0 0) t126 t127 _ A15.out).mono ?_); rintro e w' ⟨rfl, ⟨nd, rfl⟩⟩; refine ⟨_, rfl, ?_⟩; (try (rw [drewN_self wc]; generalize hq_ : World.drewN wc _ = wc; have n0_ : Aside0 (wc.heap[gb119]? = some (.cells #[.string (⟨#[]⟩ : ByteArray), .string (⟨#[]⟩ : ByteArray), .int .i64 0, .string (rdOf ByteArray.empty l0 2), .int .i64 0, .slice none 0 0] 30 (0, 0))) := ⟨by rw [← hq_]; exact (by (with_reducible repeat (first | refine bN ?_ _ | refine bD ?_ | refine bA ?_ _)); exact BK119.out)⟩; have n1_ : Aside0 (Below w.heap.size w wc) := ⟨by rw [← hq_]; exact (by repeat (first | (with_reducible first | exact HB.out | apply lA | apply lN | apply lD | refine below_set ?_ GE119.out) | exact HB.out))⟩; clear BK119 HB hq_; have BK119 := n0_; have HB := n1_; clear n0_ n1_)); obtain ⟨hcz21_0, hcz21_1, hcz21_2, hcz21_3, hcz21_4, hcz21_5, hfz21_0, hfz21_1, hfz21_2, hfz21_3, hfz21_4, hfz21_5⟩ := cz6 BK119.out; have p128 : 0 ≤ (1 : Int) := (by omega); have q128 : 1 < (l0.length : Int) := of_decide_eq_true (by first | (with_reducible assumption) | assumption); obtain ⟨ad128, e128, hx128_0⟩ := Kd.at_string HR0.out 1 p128 q128; obtain rfl : ad120 = ad128 := (by injection e128); (try simp only [show (1 : Int).toNat = 1 from rfl, Nat.reduceMul, Nat.reduceEqDiff, Go.Addr.add, ↓reduceIte] at hx128_0); have qi128 : (1 < l0.length) = True := eq_true (by omega); (try rw [show ((1 : Int)).toNat = 1 from rfl] at hx128_0); have hn128_0 : ad120.block ≠ gb119 := Nat.ne_of_lt (Nat.lt_of_lt_of_le (by have := World.block_lt_of_cell? _ _ hx128_0; first | rwa [add_block] at this | exact this) GW119.out); replace hx128_0 := (HB.out.cell (World.block_lt_of_cell? w _ hx128_0)).trans hx128_0; replace hx128_0 := (cell_far (p := ⟨gb119, 4, none⟩) (by first | (rw [add_block]; exact hn128_0) | (show (Addr.add _ _).block ≠ _; rw [add_block]; exact hn128_0) | exact hn128_0) (.int .i64 t126)).trans hx128_0; clear hn128_0; replace p128 := eq_true p128; replace q128 := eq_true q128) | ((with_reducible refine gate_callee (f := 52) rfl ?_); refine goesL_ (some 43) rfl rfl Tryz.func52 (by kernel_rfl) rfl #[.string (rdOf ByteArray.empty l0 1), .int .i64 10] rfl (by (try simp only [List.map_toArray, List.map_cons, List.map_nil]); first | done | rfl | (simp only [List.length_drop, List.length_take]; rfl)) ?_; (with_reducible refine (num_Parse.calls kj2 (rdOf ByteArray.empty l0 1) 10 t129 t130 _ A18.out).mono ?_); rintro e w' ⟨rfl, ⟨nd, rfl⟩⟩; refine ⟨_, rfl, ?_⟩) | ((with_reducible refine gate_callee (f := 35) rfl ?_); refine goesL_ (some 49) rfl rfl Tryz.func35 (by kernel_rfl) rfl #[.int .i64 t129] rfl (by (try simp only [List.map_toArray, List.map_cons, List.map_nil]); first | done | rfl | (simp only [List.length_drop, List.length_take]; rfl)) ?_; (with_reducible refine (head_status.calls t129 true _ A19.out).mono ?_); rintro e w' ⟨rfl, ⟨nd, rfl⟩⟩; refine ⟨_, rfl, ?_⟩))
         refine bodyPost_ret (results_ct rfl _ _ gb119 30 #[.string (⟨#[]⟩ : ByteArray), .string (⟨#[]⟩ : ByteArray), .int .i64 t129, .string (rdOf ByteArray.empty l0 2), .int .i64 t126, .slice none 0 0] (0, 0) _ rfl (by (repeat (first | (with_reducible first | refine bN ?_ _ | refine bD ?_ | refine bA ?_ _ | apply p6_5 | apply p6_4 | apply p6_3 | apply p6_2 | apply p6_1 | apply p6_0))); exact BK119.out) Tryz.underlying30 rfl (by kernel_rfl)) rfl ?_
         exact ⟨_, by first | rfl | (simp [errW_none, errW_some] <;> rfl) | (simp [*, errW_none, errW_some] <;> rfl), by first | exact Kd.R_nil _ _ _ _ _ | exact Kd.N_nil _ _ _ _ _ | exact Kd.V_nil _ _ _ _ _ | exact Kd.Q_nil _ _ _ _ _ | exact Kd.S_nil _ _ _ _ _, by repeat (first | (with_reducible first | exact HB.out | apply lA | apply lN | apply lD | refine below_set ?_ GE119.out) | exact HB.out)⟩
        ·replace c20 := Bool.eq_false_iff.mpr c20
         subst c20
         have H1 : (some ((⟨#[]⟩ : ByteArray), (⟨#[]⟩ : ByteArray), t129, (rdOf ByteArray.empty l0 2), t126, ([] : List (S37)), 20)) = some (r1, r2, r3, r4, r5, r6, r7) := by rw [if_neg (show ¬ (false = true) by decide)] at H; exact H
         clear H
         have H := H1
         clear H1
         simp only [Option.some.injEq, Prod.mk.injEq] at H
         obtain ⟨rfl, rfl, rfl, rfl, rfl, rfl, rfl⟩ := H
         have p125 : 0 ≤ (0 : Int) := (by omega)
         have q125 : 0 < (l0.length : Int) := of_decide_eq_true (by first | (with_reducible assumption) | assumption)
         obtain ⟨ad125, e125, hx125_0⟩ := Kd.at_string HR0.out 0 p125 q125
         obtain rfl : ad120 = ad125 := (by injection e125)
         have qi125 : (0 < l0.length) = True := eq_true (by omega)
         (try rw [show ((0 : Int)).toNat = 0 from rfl] at hx125_0)
         (try rw [Addr.add_zero'] at hx125_0)
         replace hx125_0 := (HB.out.cell (World.block_lt_of_cell? w _ hx125_0)).trans hx125_0
         replace p125 := eq_true p125
         replace q125 := eq_true q125
         go_wp2_with (first | ((with_reducible refine gate_callee (f := 50) rfl ?_); refine goesL_ (some 31) rfl rfl Tryz.func50 (by kernel_rfl) rfl #[.string (rdOf ByteArray.empty l0 0)] rfl (by (try simp only [List.map_toArray, List.map_cons, List.map_nil]); first | done | rfl | (simp only [List.length_drop, List.length_take]; rfl)) ?_; (with_reducible refine (head_version.calls kj2 (rdOf ByteArray.empty l0 0) t126 t127 _ A15.out).mono ?_); rintro e w' ⟨rfl, ⟨nd, rfl⟩⟩; refine ⟨_, rfl, ?_⟩; (try (rw [drewN_self wc]; generalize hq_ : World.drewN wc _ = wc; have n0_ : Aside0 (wc.heap[gb119]? = some (.cells #[.string (⟨#[]⟩ : ByteArray), .string (⟨#[]⟩ : ByteArray), .int .i64 0, .string (rdOf ByteArray.empty l0 2), .int .i64 0, .slice none 0 0] 30 (0, 0))) := ⟨by rw [← hq_]; exact (by (with_reducible repeat (first | refine bN ?_ _ | refine bD ?_ | refine bA ?_ _)); exact BK119.out)⟩; have n1_ : Aside0 (Below w.heap.size w wc) := ⟨by rw [← hq_]; exact (by repeat (first | (with_reducible first | exact HB.out | apply lA | apply lN | apply lD | refine below_set ?_ GE119.out) | exact HB.out))⟩; clear BK119 HB hq_; have BK119 := n0_; have HB := n1_; clear n0_ n1_)); obtain ⟨hcz22_0, hcz22_1, hcz22_2, hcz22_3, hcz22_4, hcz22_5, hfz22_0, hfz22_1, hfz22_2, hfz22_3, hfz22_4, hfz22_5⟩ := cz6 BK119.out; have p128 : 0 ≤ (1 : Int) := (by omega); have q128 : 1 < (l0.length : Int) := of_decide_eq_true (by first | (with_reducible assumption) | assumption); obtain ⟨ad128, e128, hx128_0⟩ := Kd.at_string HR0.out 1 p128 q128; obtain rfl : ad120 = ad128 := (by injection e128); (try simp only [show (1 : Int).toNat = 1 from rfl, Nat.reduceMul, Nat.reduceEqDiff, Go.Addr.add, ↓reduceIte] at hx128_0); have qi128 : (1 < l0.length) = True := eq_true (by omega); (try rw [show ((1 : Int)).toNat = 1 from rfl] at hx128_0); have hn128_0 : ad120.block ≠ gb119 := Nat.ne_of_lt (Nat.lt_of_lt_of_le (by have := World.block_lt_of_cell? _ _ hx128_0; first | rwa [add_block] at this | exact this) GW119.out); replace hx128_0 := (HB.out.cell (World.block_lt_of_cell? w _ hx128_0)).trans hx128_0; replace hx128_0 := (cell_far (p := ⟨gb119, 4, none⟩) (by first | (rw [add_block]; exact hn128_0) | (show (Addr.add _ _).block ≠ _; rw [add_block]; exact hn128_0) | exact hn128_0) (.int .i64 t126)).trans hx128_0; clear hn128_0; replace p128 := eq_true p128; replace q128 := eq_true q128) | ((with_reducible refine gate_callee (f := 52) rfl ?_); refine goesL_ (some 43) rfl rfl Tryz.func52 (by kernel_rfl) rfl #[.string (rdOf ByteArray.empty l0 1), .int .i64 10] rfl (by (try simp only [List.map_toArray, List.map_cons, List.map_nil]); first | done | rfl | (simp only [List.length_drop, List.length_take]; rfl)) ?_; (with_reducible refine (num_Parse.calls kj2 (rdOf ByteArray.empty l0 1) 10 t129 t130 _ A18.out).mono ?_); rintro e w' ⟨rfl, ⟨nd, rfl⟩⟩; refine ⟨_, rfl, ?_⟩) | ((with_reducible refine gate_callee (f := 35) rfl ?_); refine goesL_ (some 49) rfl rfl Tryz.func35 (by kernel_rfl) rfl #[.int .i64 t129] rfl (by (try simp only [List.map_toArray, List.map_cons, List.map_nil]); first | done | rfl | (simp only [List.length_drop, List.length_take]; rfl)) ?_; (with_reducible refine (head_status.calls t129 false _ A19.out).mono ?_); rintro e w' ⟨rfl, ⟨nd, rfl⟩⟩; refine ⟨_, rfl, ?_⟩))
         refine bodyPost_ret (results_ct rfl _ _ gb119 30 #[.string (⟨#[]⟩ : ByteArray), .string (⟨#[]⟩ : ByteArray), .int .i64 t129, .string (rdOf ByteArray.empty l0 2), .int .i64 t126, .slice none 0 0] (0, 0) _ rfl (by (repeat (first | (with_reducible first | refine bN ?_ _ | refine bD ?_ | refine bA ?_ _ | apply p6_5 | apply p6_4 | apply p6_3 | apply p6_2 | apply p6_1 | apply p6_0))); exact BK119.out) Tryz.underlying30 rfl (by kernel_rfl)) rfl ?_
         exact ⟨_, by first | rfl | (simp [errW_none, errW_some] <;> rfl) | (simp [*, errW_none, errW_some] <;> rfl), by first | exact Kd.R_nil _ _ _ _ _ | exact Kd.N_nil _ _ _ _ _ | exact Kd.V_nil _ _ _ _ _ | exact Kd.Q_nil _ _ _ _ _ | exact Kd.S_nil _ _ _ _ _, by repeat (first | (with_reducible first | exact HB.out | apply lA | apply lN | apply lD | refine below_set ?_ GE119.out) | exact HB.out)⟩
       ·rw [if_neg c17] at H
        exact absurd H (by simp)
      ·rw [if_neg c16] at H
       have c16b0 : (t127 == 0) = false := beq_eq_false_iff_ne.mpr c16
       have c16b1 : (t127 != 0) = true := bne_iff_ne.mpr c16
       simp only [Option.some.injEq, Prod.mk.injEq] at H
       obtain ⟨rfl, rfl, rfl, rfl, rfl, rfl, rfl⟩ := H
       have p125 : 0 ≤ (0 : Int) := (by omega)
       have q125 : 0 < (l0.length : Int) := of_decide_eq_true (by first | (with_reducible assumption) | assumption)
       obtain ⟨ad125, e125, hx125_0⟩ := Kd.at_string HR0.out 0 p125 q125
       obtain rfl : ad120 = ad125 := (by injection e125)
       have qi125 : (0 < l0.length) = True := eq_true (by omega)
       (try rw [show ((0 : Int)).toNat = 0 from rfl] at hx125_0)
       (try rw [Addr.add_zero'] at hx125_0)
       replace hx125_0 := (HB.out.cell (World.block_lt_of_cell? w _ hx125_0)).trans hx125_0
       replace p125 := eq_true p125
       replace q125 := eq_true q125
       go_wp2_with (first | ((with_reducible refine gate_callee (f := 50) rfl ?_); refine goesL_ (some 31) rfl rfl Tryz.func50 (by kernel_rfl) rfl #[.string (rdOf ByteArray.empty l0 0)] rfl (by (try simp only [List.map_toArray, List.map_cons, List.map_nil]); first | done | rfl | (simp only [List.length_drop, List.length_take]; rfl)) ?_; (with_reducible refine (head_version.calls kj2 (rdOf ByteArray.empty l0 0) t126 t127 _ A15.out).mono ?_); rintro e w' ⟨rfl, ⟨nd, rfl⟩⟩; refine ⟨_, rfl, ?_⟩; (try (rw [drewN_self wc]; generalize hq_ : World.drewN wc _ = wc; have n0_ : Aside0 (wc.heap[gb119]? = some (.cells #[.string (⟨#[]⟩ : ByteArray), .string (⟨#[]⟩ : ByteArray), .int .i64 0, .string (rdOf ByteArray.empty l0 2), .int .i64 0, .slice none 0 0] 30 (0, 0))) := ⟨by rw [← hq_]; exact (by (with_reducible repeat (first | refine bN ?_ _ | refine bD ?_ | refine bA ?_ _)); exact BK119.out)⟩; have n1_ : Aside0 (Below w.heap.size w wc) := ⟨by rw [← hq_]; exact (by repeat (first | (with_reducible first | exact HB.out | apply lA | apply lN | apply lD | refine below_set ?_ GE119.out) | exact HB.out))⟩; clear BK119 HB hq_; have BK119 := n0_; have HB := n1_; clear n0_ n1_)); obtain ⟨hcz23_0, hcz23_1, hcz23_2, hcz23_3, hcz23_4, hcz23_5, hfz23_0, hfz23_1, hfz23_2, hfz23_3, hfz23_4, hfz23_5⟩ := cz6 BK119.out))
       refine bodyPost_ret (results_ct rfl _ _ gb119 30 #[.string (⟨#[]⟩ : ByteArray), .string (⟨#[]⟩ : ByteArray), .int .i64 0, .string (rdOf ByteArray.empty l0 2), .int .i64 t126, .slice none 0 0] (0, 0) _ rfl (by (repeat (first | (with_reducible first | refine bN ?_ _ | refine bD ?_ | refine bA ?_ _ | apply p6_5 | apply p6_4 | apply p6_3 | apply p6_2 | apply p6_1 | apply p6_0))); exact BK119.out) Tryz.underlying30 rfl (by kernel_rfl)) rfl ?_
       exact ⟨_, by first | rfl | (simp [errW_none, errW_some] <;> rfl) | (simp [*, errW_none, errW_some] <;> rfl), by first | exact Kd.R_nil _ _ _ _ _ | exact Kd.N_nil _ _ _ _ _ | exact Kd.V_nil _ _ _ _ _ | exact Kd.Q_nil _ _ _ _ _ | exact Kd.S_nil _ _ _ _ _, by repeat (first | (with_reducible first | exact HB.out | apply lA | apply lN | apply lD | refine below_set ?_ GE119.out) | exact HB.out)⟩
     ·rw [if_neg c14] at H
      exact absurd H (by simp)
 ·rw [if_neg c2] at H
  exact absurd H (by simp)

def field_Parse.j0 : Nat → Bool → ByteArray → ByteArray → Option (ByteArray × ByteArray × Int)
 | 0, _, _, _ => none
 | k + 1, x31, x138000, x138001 => if x31 = true then (some ((⟨#[]⟩ : ByteArray), (⟨#[]⟩ : ByteArray), 21)) else (some (x138000, x138001, 0))
def field_Parse.f (k : Nat) (a0 : ByteArray) : Option (ByteArray × ByteArray × Int) := (strings_Cut.f a0 (⟨#[58]⟩ : ByteArray)).bind fun bt133 => ((field_Trim.f bt133.2.1).bind fun t136 => (if bt133.2.2 = true then ((field_Name.f bt133.1).bind fun t138 => (if t138 = true then ((field_Value.f t136).bind fun t139 => (field_Parse.j0 k (!t139) bt133.1 t136)) else (field_Parse.j0 k true bt133.1 t136))) else (field_Parse.j0 k true bt133.1 t136)))
theorem field_Parse.mono_l : ∀ k, (∀ y0 y1 y2, LeO (field_Parse.j0 k y0 y1 y2) (field_Parse.j0 (k + 1) y0 y1 y2))
 | 0 => fun _ _ _ r h => by simp [field_Parse.j0] at h
 | k + 1 => by
  have ih0 := field_Parse.mono_l k
  ·intro y0 y1 y2
   unfold field_Parse.j0
   repeat' first
   | (with_reducible exact ih0 _ _ _)
   | (with_reducible exact LeO.refl _)
   | (with_reducible exact LeO.none _)
   | (with_reducible refine LeO.ite ?_ ?_)
   | (with_reducible refine LeO.bind ?_ (fun _ => ?_))
   | exact ih0 _ _ _
   | exact LeO.none _
   | refine LeO.ite ?_ ?_
   | refine LeO.bind ?_ (fun _ => ?_)
theorem field_Parse.mono : ∀ a0 k, LeO (field_Parse.f k a0) (field_Parse.f (k + 1) a0) := by
 intro a0 k
 have ih0 := field_Parse.mono_l k
 unfold field_Parse.f
 repeat' first
   | (with_reducible exact ih0 _ _ _)
   | (with_reducible exact LeO.refl _)
   | (with_reducible exact LeO.none _)
   | (with_reducible refine LeO.ite ?_ ?_)
   | (with_reducible refine LeO.bind ?_ (fun _ => ?_))
   | exact ih0 _ _ _
   | exact LeO.none _
   | refine LeO.ite ?_ ?_
   | refine LeO.bind ?_ (fun _ => ?_)
set_option maxHeartbeats 8000000 in
set_option maxRecDepth 100000 in
theorem field_Parse.calls (k : Nat) (a0 : ByteArray) (r1 : ByteArray) (r2 : ByteArray) (r3 : Int) (w : World) (h : field_Parse.f k a0 = some (r1, r2, r3)) :
  Calls Tryz.prog 28 #[.string a0] w fun e w' => e = .returned (.tuple #[.agg #[.string r1, .string r2], .int .i64 r3]) ∧ Below w.heap.size w w' := by
 have hu37 := Tryz.underlying37
 have HB := aM (Below.refl w.heap.size w)
 have H : ((strings_Cut.f a0 (⟨#[58]⟩ : ByteArray)).bind fun bt133 => ((field_Trim.f bt133.2.1).bind fun t136 => (if bt133.2.2 = true then ((field_Name.f bt133.1).bind fun t138 => (if t138 = true then ((field_Value.f t136).bind fun t139 => (field_Parse.j0 k (!t139) bt133.1 t136)) else (field_Parse.j0 k true bt133.1 t136))) else (field_Parse.j0 k true bt133.1 t136)))) = some (r1, r2, r3) := h
 clear h
 replace H := Option.bind_eq_some_iff.mp H
 obtain ⟨⟨t133, t134, t135⟩, A20, H⟩ := H
 replace H : ((field_Trim.f t134).bind fun t136 => (if t135 = true then ((field_Name.f t133).bind fun t138 => (if t138 = true then ((field_Value.f t136).bind fun t139 => (field_Parse.j0 k (!t139) t133 t136)) else (field_Parse.j0 k true t133 t136))) else (field_Parse.j0 k true t133 t136))) = some (r1, r2, r3) := H
 have A2 := aM A20
 clear A20
 replace H := Option.bind_eq_some_iff.mp H
 obtain ⟨t136, A30, H⟩ := H
 replace H : (if t135 = true then ((field_Name.f t133).bind fun t138 => (if t138 = true then ((field_Value.f t136).bind fun t139 => (field_Parse.j0 k (!t139) t133 t136)) else (field_Parse.j0 k true t133 t136))) else (field_Parse.j0 k true t133 t136)) = some (r1, r2, r3) := H
 have A3 := aM A30
 clear A30
 have HC4 := aM H
 clear H
 go_enter Tryz.func28, Tryz.ntmps28
 go_upto_region 3 with (first | ((with_reducible refine gate_dst (N := 2) rfl ?_); refine box_event ?hg (N := 2) ?hd (cs := #[.string (⟨#[]⟩ : ByteArray), .string (⟨#[]⟩ : ByteArray)]) (t := 37) ?hr ?_; (case hd => rfl); (case hg => rfl); (case hr => first | (go_simp; done) | (go_simp; rfl)); intro gb132 hg w5 hbox hb; have n0_ := aM (below_step (by repeat (first | (with_reducible first | exact HB.out | apply lA | apply lN | apply lD) | exact HB.out)) hb); have n1_ := aM (hbox); have n2_ := aM ((by rw [hg]; exact (below_size (by repeat (first | (with_reducible first | exact HB.out | apply lA | apply lN | apply lD) | exact HB.out))) : w.heap.size ≤ gb132)); have n3_ := n2_; clear HB; have HB := n0_; have BK132 := n1_; have GW132 := n2_; have GE132 := n3_; clear n0_ n1_ n2_ n3_; clear hb hbox hg) | ((with_reducible refine gate_callee (f := 53) rfl ?_); refine goesL_ (some 10) rfl rfl Tryz.func53 (by kernel_rfl) rfl #[.string a0, .string (⟨#[58]⟩ : ByteArray)] rfl (by (try simp only [List.map_toArray, List.map_cons, List.map_nil]); first | done | rfl | (simp only [List.length_drop, List.length_take]; rfl)) ?_; (with_reducible refine (strings_Cut.calls a0 (⟨#[58]⟩ : ByteArray) t133 t134 t135 _ A2.out).mono ?_); rintro e w' ⟨rfl, ⟨nd, rfl⟩⟩; refine ⟨_, rfl, ?_⟩; (try (rw [drewN_self w5]; generalize hq_ : World.drewN w5 _ = w5; have n0_ : Aside0 (w5.heap[gb132]? = some (.cells #[.string (⟨#[]⟩ : ByteArray), .string (⟨#[]⟩ : ByteArray)] 37 (0, 0))) := ⟨by rw [← hq_]; exact (by (with_reducible repeat (first | refine bN ?_ _ | refine bD ?_ | refine bA ?_ _)); exact BK132.out)⟩; have n1_ : Aside0 (Below w.heap.size w w5) := ⟨by rw [← hq_]; exact (by repeat (first | (with_reducible first | exact HB.out | apply lA | apply lN | apply lD | refine below_set ?_ GE132.out) | exact HB.out))⟩; clear BK132 HB hq_; have BK132 := n0_; have HB := n1_; clear n0_ n1_))) | ((with_reducible refine gate_callee (f := 54) rfl ?_); refine goesL_ (some 16) rfl rfl Tryz.func54 (by kernel_rfl) rfl #[.string t134] rfl (by (try simp only [List.map_toArray, List.map_cons, List.map_nil]); first | done | rfl | (simp only [List.length_drop, List.length_take]; rfl)) ?_; (with_reducible refine (field_Trim.calls t134 t136 _ A3.out).mono ?_); rintro e w6 ⟨rfl, hb⟩; refine ⟨_, rfl, ?_⟩; have n0_ := aM (blk_below (g := gb132) (o := .cells #[.string (⟨#[]⟩ : ByteArray), .string (⟨#[]⟩ : ByteArray)] 37 (0, 0)) (by (with_reducible repeat (first | refine bN ?_ _ | refine bD ?_ | refine bA ?_ _)); exact BK132.out) hb); have n1_ := aM (below_step (by repeat (first | (with_reducible first | exact HB.out | apply lA | apply lN | apply lD | refine below_set ?_ GE132.out) | exact HB.out)) hb); clear BK132 HB; have BK132 := n0_; have HB := n1_; clear n0_ n1_; (try clear hb); (try clear hb2); (try clear hk); (try clear hi)) | ((with_reducible refine gate_dst (N := 7) rfl ?_); refine box_event ?hg (N := 7) ?hd (cs := #[.string (⟨#[]⟩ : ByteArray), .string (⟨#[]⟩ : ByteArray)]) (t := 37) ?hr ?_; (case hd => rfl); (case hg => rfl); (case hr => first | (go_simp; done) | (go_simp; rfl)); intro gb137 hg w7 hbox hb; have n0_ := aM (blk_below (g := gb132) (o := .cells #[.string (⟨#[]⟩ : ByteArray), .string (⟨#[]⟩ : ByteArray)] 37 (0, 0)) (by (with_reducible repeat (first | refine bN ?_ _ | refine bD ?_ | refine bA ?_ _)); exact BK132.out) hb); have n1_ := aM (below_step (by repeat (first | (with_reducible first | exact HB.out | apply lA | apply lN | apply lD | refine below_set ?_ GE132.out) | exact HB.out)) hb); have n2_ := aM (hbox); have n3_ := aM ((by rw [hg]; exact (below_size (by repeat (first | (with_reducible first | exact HB.out | apply lA | apply lN | apply lD | refine below_set ?_ GE132.out) | exact HB.out))) : w.heap.size ≤ gb137)); have n4_ := n3_; have n5_ := aM ((by rw [hg]; exact Nat.ne_of_lt (blk_lt (by (with_reducible repeat (first | refine bN ?_ _ | refine bD ?_ | refine bA ?_ _)); exact BK132.out)) : gb132 ≠ gb137)); have n6_ := aM (n5_.out.symm); clear BK132 HB; have BK132 := n0_; have HB := n1_; have BK137 := n2_; have GW137 := n3_; have GE137 := n4_; have NB132_137 := n5_; have NB137_132 := n6_; clear n0_ n1_ n2_ n3_ n4_ n5_ n6_; clear hb hbox hg; have hnb8 := NB137_132.out; have hnc8 := NB132_137.out; obtain ⟨hcz9_0, hcz9_1, hfz9_0, hfz9_1⟩ := cz2 BK137.out))
 (try simp only [Act.put, List.setIfInBounds_toArray, List.set_cons_zero, List.set_cons_succ])
 go_cut [31] (fun v31 wc => ∃ (kq : Nat) (x31_3 : Bool), v31 = .bool x31_3 ∧ Aside0 (field_Parse.j0 kq x31_3 t133 t136 = some (r1, r2, r3)) ∧ Aside0 (kq ≤ k) ∧ Aside0 (wc.heap[gb132]? = some (.cells #[.string (⟨#[]⟩ : ByteArray), .string (⟨#[]⟩ : ByteArray)] 37 (0, 0))) ∧ Aside0 (wc.heap[gb137]? = some (.cells #[.string t133, .string t136] 37 (0, 0))) ∧ Aside0 (Below w.heap.size w wc))
 case first =>
  have H := HC4.out
  clear HC4
  by_cases c10 : t135 = true
  ·subst c10
   have H1 : ((field_Name.f t133).bind fun t138 => (if t138 = true then ((field_Value.f t136).bind fun t139 => (field_Parse.j0 k (!t139) t133 t136)) else (field_Parse.j0 k true t133 t136))) = some (r1, r2, r3) := by rw [if_pos rfl] at H; exact H
   clear H
   have H := H1
   clear H1
   replace H := Option.bind_eq_some_iff.mp H
   obtain ⟨t138, A110, H⟩ := H
   replace H : (if t138 = true then ((field_Value.f t136).bind fun t139 => (field_Parse.j0 k (!t139) t133 t136)) else (field_Parse.j0 k true t133 t136)) = some (r1, r2, r3) := H
   have A11 := aM A110
   clear A110
   by_cases c12 : t138 = true
   ·subst c12
    have H1 : ((field_Value.f t136).bind fun t139 => (field_Parse.j0 k (!t139) t133 t136)) = some (r1, r2, r3) := by rw [if_pos rfl] at H; exact H
    clear H
    have H := H1
    clear H1
    replace H := Option.bind_eq_some_iff.mp H
    obtain ⟨t139, A130, H⟩ := H
    replace H : (field_Parse.j0 k (!t139) t133 t136) = some (r1, r2, r3) := H
    have A13 := aM A130
    clear A130
    have H' := aM H
    clear H
    have hnb14 := NB137_132.out
    have hnc14 := NB132_137.out
    obtain ⟨hcz15_0, hcz15_1, hfz15_0, hfz15_1⟩ := cz2 BK137.out
    go_wp2_with (first | (go_at_call 32; (with_reducible refine (field_Name.calls t133 true _ A11.out).mono ?_); rintro e w' ⟨rfl, ⟨nd, rfl⟩⟩) | (go_at_call 33; (with_reducible refine (field_Value.calls t136 t139 _ A13.out).mono ?_); rintro e w16 ⟨rfl, hb⟩; have n0_ := aM (blk_below (g := gb132) (o := .cells #[.string (⟨#[]⟩ : ByteArray), .string (⟨#[]⟩ : ByteArray)] 37 (0, 0)) (by (repeat (first | (with_reducible first | refine bN ?_ _ | refine bD ?_ | refine bA ?_ _) | refine blk_far ?_ NB132_137.out _)); exact BK132.out) hb); have n1_ := aM (blk_below (g := gb137) (o := .cells #[.string t133, .string t136] 37 (0, 0)) (by (repeat (first | (with_reducible first | refine bN ?_ _ | refine bD ?_ | refine bA ?_ _ | apply p2_1 | apply p2_0))); exact BK137.out) hb); have n2_ := aM (below_step (by repeat (first | (with_reducible first | exact HB.out | apply lA | apply lN | apply lD | refine below_set ?_ GE132.out | refine below_set ?_ GE137.out) | exact HB.out)) hb); clear BK132 BK137 HB; have BK132 := n0_; have BK137 := n1_; have HB := n2_; clear n0_ n1_ n2_; (try clear hb); (try clear hb2); (try clear hk); (try clear hi)))
    go_meet
    case rel => exact ⟨_, (!t139), (by first | rfl | (simp; done) | (simp [*]; done)), H', ⟨by first | omega | exact Nat.le_refl _⟩, ⟨by (with_reducible repeat (first | refine bN ?_ _ | refine bD ?_ | refine bA ?_ _)); exact BK132.out⟩, ⟨by (with_reducible repeat (first | refine bN ?_ _ | refine bD ?_ | refine bA ?_ _)); exact BK137.out⟩, ⟨by repeat (first | (with_reducible first | exact HB.out | apply lA | apply lN | apply lD | refine below_set ?_ GE132.out | refine below_set ?_ GE137.out) | exact HB.out)⟩⟩
   ·replace c12 := Bool.eq_false_iff.mpr c12
    subst c12
    have H1 : (field_Parse.j0 k true t133 t136) = some (r1, r2, r3) := by rw [if_neg (show ¬ (false = true) by decide)] at H; exact H
    clear H
    have H := H1
    clear H1
    have H' := aM H
    clear H
    have hnb17 := NB137_132.out
    have hnc17 := NB132_137.out
    obtain ⟨hcz18_0, hcz18_1, hfz18_0, hfz18_1⟩ := cz2 BK137.out
    go_wp2_with (first | (go_at_call 32; (with_reducible refine (field_Name.calls t133 false _ A11.out).mono ?_); rintro e w' ⟨rfl, ⟨nd, rfl⟩⟩))
    go_meet
    case rel => exact ⟨_, (true), (by first | rfl | (simp; done) | (simp [*]; done)), H', ⟨by first | omega | exact Nat.le_refl _⟩, ⟨by (repeat (first | (with_reducible first | refine bN ?_ _ | refine bD ?_ | refine bA ?_ _) | refine blk_far ?_ NB132_137.out _)); exact BK132.out⟩, ⟨by (repeat (first | (with_reducible first | refine bN ?_ _ | refine bD ?_ | refine bA ?_ _ | apply p2_1 | apply p2_0))); exact BK137.out⟩, ⟨by repeat (first | (with_reducible first | exact HB.out | apply lA | apply lN | apply lD | refine below_set ?_ GE132.out | refine below_set ?_ GE137.out) | exact HB.out)⟩⟩
  ·replace c10 := Bool.eq_false_iff.mpr c10
   subst c10
   have H1 : (field_Parse.j0 k true t133 t136) = some (r1, r2, r3) := by rw [if_neg (show ¬ (false = true) by decide)] at H; exact H
   clear H
   have H := H1
   clear H1
   have H' := aM H
   clear H
   go_wp2
   go_meet
   case rel => exact ⟨_, (true), (by first | rfl | (simp; done) | (simp [*]; done)), H', ⟨by first | omega | exact Nat.le_refl _⟩, ⟨by (repeat (first | (with_reducible first | refine bN ?_ _ | refine bD ?_ | refine bA ?_ _) | refine blk_far ?_ NB132_137.out _)); exact BK132.out⟩, ⟨by (repeat (first | (with_reducible first | refine bN ?_ _ | refine bD ?_ | refine bA ?_ _ | apply p2_1 | apply p2_0))); exact BK137.out⟩, ⟨by repeat (first | (with_reducible first | exact HB.out | apply lA | apply lN | apply lD | refine below_set ?_ GE132.out | refine below_set ?_ GE137.out) | exact HB.out)⟩⟩
 case rest =>
  clear HC4
  try clear c1
  try clear c2
  try clear p2
  try clear c5
  try clear c8
  try clear c10
  try clear c12
  try clear c14
  try clear c17
  try clear hcz15_0
  try clear hcz15_1
  try clear hcz18_0
  try clear hcz18_1
  try clear hcz9_0
  try clear hcz9_1
  try clear hfz15_0
  try clear hfz15_1
  try clear hfz18_0
  try clear hfz18_1
  try clear hfz9_0
  try clear hfz9_1
  obtain ⟨kq, x31_3, rfl, HA, HJ3, BK132, BK137, HB⟩ := hcut
  cases kq with
  | zero => exact absurd HA.out (by simp [field_Parse.j0])
  | succ kj3 =>
   have H := HA.out
   clear HA
   simp only [field_Parse.j0] at H
   by_cases c19 : x31_3 = true
   ·subst c19
    have H1 : (some ((⟨#[]⟩ : ByteArray), (⟨#[]⟩ : ByteArray), 21)) = some (r1, r2, r3) := by rw [if_pos rfl] at H; exact H
    clear H
    have H := H1
    clear H1
    simp only [Option.some.injEq, Prod.mk.injEq] at H
    obtain ⟨rfl, rfl, rfl⟩ := H
    have hnb20 := NB132_137.out
    have hnc20 := NB137_132.out
    obtain ⟨hcz21_0, hcz21_1, hfz21_0, hfz21_1⟩ := cz2 BK132.out
    go_wp2
    refine bodyPost_ret (results_ct rfl _ _ gb132 37 #[.string (⟨#[]⟩ : ByteArray), .string (⟨#[]⟩ : ByteArray)] (0, 0) _ rfl (by (repeat (first | (with_reducible first | refine bN ?_ _ | refine bD ?_ | refine bA ?_ _ | apply p2_1 | apply p2_0))); exact BK132.out) Tryz.underlying37 rfl (by kernel_rfl)) rfl ?_
    exact ⟨by first | rfl | (simp [errW_none, errW_some] <;> rfl) | (simp [*, errW_none, errW_some] <;> rfl), by repeat (first | (with_reducible first | exact HB.out | apply lA | apply lN | apply lD | refine below_set ?_ GE132.out | refine below_set ?_ GE137.out) | exact HB.out)⟩
   ·replace c19 := Bool.eq_false_iff.mpr c19
    subst c19
    have H1 : (some (t133, t136, 0)) = some (r1, r2, r3) := by rw [if_neg (show ¬ (false = true) by decide)] at H; exact H
    clear H
    have H := H1
    clear H1
    simp only [Option.some.injEq, Prod.mk.injEq] at H
    obtain ⟨rfl, rfl, rfl⟩ := H
    have hnb22 := NB137_132.out
    have hnc22 := NB132_137.out
    obtain ⟨hcz23_0, hcz23_1, hfz23_0, hfz23_1⟩ := cz2 BK137.out
    obtain ⟨hcz24_0, hcz24_1, hfz24_0, hfz24_1⟩ := cz2 BK132.out
    go_wp2
    refine bodyPost_ret (results_ct rfl _ _ gb132 37 #[.string t133, .string t136] (0, 0) _ rfl (by (repeat (first | (with_reducible first | refine bN ?_ _ | refine bD ?_ | refine bA ?_ _ | apply p2_1 | apply p2_0))); exact BK132.out) Tryz.underlying37 rfl (by kernel_rfl)) rfl ?_
    exact ⟨by first | rfl | (simp [errW_none, errW_some] <;> rfl) | (simp [*, errW_none, errW_some] <;> rfl), by repeat (first | (with_reducible first | exact HB.out | apply lA | apply lN | apply lD | refine below_set ?_ GE132.out | refine below_set ?_ GE137.out) | exact HB.out)⟩

def IsS49 (w0 W : World) (g : Nat) (f0 : List Int) (f1 : Int) : Prop := ∃ A0 c0, W.heap[g]? = some (.cells #[.slice A0 f0.length c0, .int .i64 f1] 49 (0, 0)) ∧ w0.heap.size ≤ g ∧ Kd.C (Kd.int .u8) w0 A0 f0.length f0
theorem IsS49.grown {w0 W : World} {g : Nat} {f0 : List Int} {f1 : Int} {W1 : World} {row : Option Nat} (h : IsS49 w0 W g f0 f1) (hw : W.grownBy W1 row) (hne : some g ≠ row) : IsS49 w0 W1 g f0 f1 := by
 obtain ⟨A0, c0, hb, hg, hr0⟩ := h
 exact ⟨A0, c0, blk_grown hb hw hne, hg, hr0⟩
theorem IsS49.fresh {w0 W : World} {g : Nat} {f0 : List Int} {f1 : Int} (h : IsS49 w0 W g f0 f1) : ∀ k, W.heap.size ≤ k → k ≠ g := by
 obtain ⟨A0, c0, hb, hg, hr0⟩ := h
 exact Kd.freshB hb
theorem IsS49.kept {w0 W : World} {g : Nat} {f0 : List Int} {f1 : Int} {W1 : World} {S : Nat → Prop} (h : IsS49 w0 W g f0 f1) (hk : Kept W W1 S) (hne : ¬ S g) : IsS49 w0 W1 g f0 f1 := by
 obtain ⟨A0, c0, hb, hg, hr0⟩ := h
 exact ⟨A0, c0, blk_kept hb hk hne, hg, hr0⟩
theorem IsS49.below {w0 W : World} {g : Nat} {f0 : List Int} {f1 : Int} {W1 : World} (h : IsS49 w0 W g f0 f1) (hw : Below W.heap.size W W1) : IsS49 w0 W1 g f0 f1 := h.grown (grown_of_below hw none) (by simp)
theorem IsS49.alloc {w0 W : World} {g : Nat} {f0 : List Int} {f1 : Int} (h : IsS49 w0 W g f0 f1) (o : Obj) : IsS49 w0 (W.alloc o) g f0 f1 := h.below (lA (Below.refl _ _) o)
theorem IsS49.drewN {w0 W : World} {g : Nat} {f0 : List Int} {f1 : Int} (h : IsS49 w0 W g f0 f1) (m : Nat) : IsS49 w0 (W.drewN m) g f0 f1 := h
theorem IsS49.drew {w0 W : World} {g : Nat} {f0 : List Int} {f1 : Int} (h : IsS49 w0 W g f0 f1) : IsS49 w0 W.drew g f0 f1 := h
theorem IsS49.at_ {w0 W : World} {g : Nat} {f0 : List Int} {f1 : Int} {w' : World} {m : Nat} (hq : W.drewN m = w') (h : IsS49 w0 W g f0 f1) : IsS49 w0 w' g f0 f1 := by subst hq; exact IsS49.drewN h m
theorem IsS49.apart {w0 W : World} {g : Nat} {f0 : List Int} {f1 : Int} {α : Type} {d : Kd α} {e : Nat} {base : Nat} {ok : Nat → Prop} {v : Value} {xs : List α} (h : IsS49 w0 W g f0 f1) (ho : d.R e W base ok v xs) (ht : ∀ q, q ∈ e :: d.E → q ≠ 49) : d.R e W base (fun k => ok k ∧ k ≠ g) v xs := by
 obtain ⟨A0, c0, hb, hg, hr0⟩ := h
 exact Kd.R_types ho hb ht
theorem IsS49.own_ne {w0 W : World} {g : Nat} {f0 : List Int} {f1 : Int} {α : Type} {d : Kd α} {e : Nat} {base : Nat} {ok : Nat → Prop} {v : Value} {xs : List α} (h : IsS49 w0 W g f0 f1) (ho : d.R e W base ok v xs) (ht : e ≠ 49) : some g ≠ v.ownBlock := by
 obtain ⟨A0, c0, hb, hg, hr0⟩ := h
 exact Kd.R_ne ho hb ht
end Go.Proofs.YtemhokkfefidlaaGreatDoor.P
