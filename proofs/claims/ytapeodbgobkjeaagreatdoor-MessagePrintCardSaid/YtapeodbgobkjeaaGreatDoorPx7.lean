/- Printed by a program of the session out of the translation: plain Lean functions, each with the contract that the Go function computes it. -/
import Derived.Test.YtapeodbgobkjeaaGreatDoorHZM
import Derived.Test.YtapeodbgobkjeaaGreatDoorPx0
import Derived.Test.YtapeodbgobkjeaaGreatDoorPx5
import Derived.Test.YtapeodbgobkjeaaGreatDoorPx6
import Derived.Test.YtapeodbgobkjeaaGreatDoorHZB
namespace Go.Proofs.YtapeodbgobkjeaaGreatDoor.P
open Go.RowKit Go.Proofs.YtapeodbgobkjeaaGreatDoorW.PrintWords Go.Proofs.YtapeodbgobkjeaaGreatDoorW.PrintLast Go.Proofs.YtapeodbgobkjeaaGreatDoorW.PrintMore
attribute [local go_sem] max2_int min2_int max_two min_two max_three min_three max_four min_four   -- for this text's walks alone
set_option linter.unusedVariables false
set_option linter.unusedSimpArgs false

def head_answer.j0 : Nat → List ByteArray → Bool → ByteArray → ByteArray → Int → ByteArray → Int → Option (ByteArray × ByteArray × Int × ByteArray × Int × (List (S40)) × Int)
 | 0, _, _, _, _, _, _, _ => none
 | k + 1, x0, x25, x120000, x120001, x120002, x120003, x120004 => if x25 = true then (some (x120000, x120001, x120002, x120003, x120004, ([] : List (S40)), 20)) else (if 0 < (x0.length : Int) then ((head_version.f k (rdOf ByteArray.empty x0 0)).bind fun bt126 => (if bt126.2 = 0 then (if 1 < (x0.length : Int) then ((num_Parse.f k (rdOf ByteArray.empty x0 1) 10).bind fun bt129 => ((head_status.f bt129.1).bind fun t131 => (if t131 = true then (some (x120000, x120001, bt129.1, x120003, bt126.1, ([] : List (S40)), 0)) else (some (x120000, x120001, bt129.1, x120003, bt126.1, ([] : List (S40)), 20))))) else (none)) else (some (x120000, x120001, x120002, x120003, bt126.1, ([] : List (S40)), bt126.2)))) else (none))
def head_answer.f (k : Nat) (l0 : List ByteArray) : Option (ByteArray × ByteArray × Int × ByteArray × Int × (List (S40)) × Int) := if 2 < (l0.length : Int) then (if 1 < (l0.length : Int) then (if ((rdOf ByteArray.empty l0 1).size : Int) = 3 then ((head_digits.f k (rdOf ByteArray.empty l0 1)).bind fun t123 => (if t123 = true then ((head_reason.f k (rdOf ByteArray.empty l0 2)).bind fun t124 => (head_answer.j0 k l0 (!t124) (⟨#[]⟩ : ByteArray) (⟨#[]⟩ : ByteArray) 0 (rdOf ByteArray.empty l0 2) 0)) else (head_answer.j0 k l0 true (⟨#[]⟩ : ByteArray) (⟨#[]⟩ : ByteArray) 0 (rdOf ByteArray.empty l0 2) 0))) else (head_answer.j0 k l0 true (⟨#[]⟩ : ByteArray) (⟨#[]⟩ : ByteArray) 0 (rdOf ByteArray.empty l0 2) 0)) else (none)) else (none)
theorem head_answer.mono_l : ∀ k, (∀ y0 y1 y2 y3 y4 y5 y6, LeO (head_answer.j0 k y0 y1 y2 y3 y4 y5 y6) (head_answer.j0 (k + 1) y0 y1 y2 y3 y4 y5 y6))
 | 0 => fun _ _ _ _ _ _ _ r h => by simp [head_answer.j0] at h
 | k + 1 => by
  have ih0 := head_answer.mono_l k
  ·intro y0 y1 y2 y3 y4 y5 y6
   unfold head_answer.j0; have m0 := @head_digits.mono; have m1 := @head_reason.mono; have m2 := @head_version.mono; have m3 := @num_Parse.mono; exact zM
theorem head_answer.mono : ∀ a0 k, LeO (head_answer.f k a0) (head_answer.f (k + 1) a0) := by
 intro a0 k
 have ih0 := head_answer.mono_l k
 unfold head_answer.f; have m0 := @head_digits.mono; have m1 := @head_reason.mono; have m2 := @head_version.mono; have m3 := @num_Parse.mono; exact zM
set_option maxHeartbeats 8000000 in
set_option maxRecDepth 100000 in
theorem head_answer.calls (k : Nat) (A0 : Option Addr) (c0 : Nat) (l0 : List ByteArray) (r1 : ByteArray) (r2 : ByteArray) (r3 : Int) (r4 : ByteArray) (r5 : Int) (r6 : List (S40)) (r7 : Int) (w : World) (hr0 : Kd.C Kd.string w A0 l0.length l0) (hc0 : l0.length ≤ c0) (h : head_answer.f k l0 = some (r1, r2, r3, r4, r5, r6, r7)) :
  Calls Tryz.prog 135 #[.slice A0 l0.length c0] w fun e w' => ∃ v5_ : Value, e = .returned (.tuple #[.agg #[.string r1, .string r2, .int .i64 r3, .string r4, .int .i64 r5, v5_], .int .i64 r7]) ∧ Kd.R k40 40 w' w.heap.size (fun _ => True) v5_ r6 ∧ Below w.heap.size w w' := by
 have hu29 := Tryz.underlying29; have HR0 := aM hr0; have HC0 := aM hc0; clear hr0 hc0; have HB := aM (Below.refl w.heap.size w); have H := h; unfold head_answer.f at H; clear h; by_cases c2 : 2 < (l0.length : Int)
 ·rw [if_pos c2] at H; have c2b0 := decide_eq_true c2; have c2b1 : decide (2 < l0.length) = true := decide_eq_true (by omega); clear c2; have HC3 := aM H; clear H
  go_enter Tryz.func135, Tryz.ntmps135
  go_upto_region 2 with (first | ((with_reducible refine gate_dst (N := 2) rfl ?_); refine box_event ?hg (N := 2) ?hd (cs := #[.string (⟨#[]⟩ : ByteArray), .string (⟨#[]⟩ : ByteArray), .int .i64 0, .string (⟨#[]⟩ : ByteArray), .int .i64 0, .slice none 0 0]) (t := 29) ?hr ?_; (case hd => rfl); (case hg => rfl); (case hr => exact zG); intro gb119 hg w4 hbox hb; have BK119 := aM hbox; have GW119 := aM (by rw [hg]; exact (below_size zB) : w.heap.size ≤ gb119); replace HB := aM (below_step zB hb); have GE119 := GW119; clear hb hbox hg; have p120 : 0 ≤ (2 : Int) := (by omega); have q120 : 2 < (l0.length : Int) := of_decide_eq_true zA; obtain ⟨ad120, e120, hx120_0⟩ := Kd.at_string HR0.out 2 p120 q120; cases e120; (try simp only [show (2 : Int).toNat = 2 from rfl, Nat.reduceMul, Nat.reduceEqDiff, Go.Addr.add, ↓reduceIte] at hx120_0); have qi120 : (2 < l0.length) = True := eq_true (by omega); (try rw [show ((2 : Int)).toNat = 2 from rfl] at hx120_0); replace hx120_0 := (HB.out.cell (World.block_lt_of_cell? w _ hx120_0)).trans hx120_0; replace p120 := eq_true p120; replace q120 := eq_true q120; obtain ⟨_, _, _, _, _, _, _, _, _, _, _, _⟩ := cz6 BK119.out))
  (try simp only [Act.put, List.setIfInBounds_toArray, List.set_cons_zero, List.set_cons_succ])
  go_cut [25] (fun v25 wc => ∃ (kq : Nat) (x25_2 : Bool), v25 = .bool x25_2 ∧ Aside0 (head_answer.j0 kq l0 x25_2 (⟨#[]⟩ : ByteArray) (⟨#[]⟩ : ByteArray) 0 (rdOf ByteArray.empty l0 2) 0 = some (r1, r2, r3, r4, r5, r6, r7)) ∧ Aside0 (kq ≤ k) ∧ Aside0 (wc.heap[gb119]? = some (.cells #[.string (⟨#[]⟩ : ByteArray), .string (⟨#[]⟩ : ByteArray), .int .i64 0, .string (rdOf ByteArray.empty l0 2), .int .i64 0, (.slice none 0 0)] 29 (0, 0))) ∧ Aside0 (Below w.heap.size w wc))
  case first =>
   have H := HC3.out; clear HC3; by_cases c6 : 1 < (l0.length : Int)
   ·rw [if_pos c6] at H; have c6b0 := decide_eq_true c6; have c6b1 : decide (1 < l0.length) = true := decide_eq_true (by omega); clear c6
    (first | rw [c6b0] | (simp only [i64_w, i32_w]; rw [c6b0]) | skip)
    by_cases c7 : ((rdOf ByteArray.empty l0 1).size : Int) = 3
    ·rw [if_pos c7] at H; obtain ⟨c7b0, c7b1⟩ := zd c7; clear c7; obtain ⟨t123, A8, H⟩ := zc H; (try dsimp only at H); by_cases c9 : t123 = true
     ·subst c9; rw [if_pos rfl] at H; replace H := Option.bind_eq_some_iff.mp H; obtain ⟨t124, A100, H⟩ := H; replace H : (head_answer.j0 k l0 (!t124) (⟨#[]⟩ : ByteArray) (⟨#[]⟩ : ByteArray) 0 (rdOf ByteArray.empty l0 2) 0) = some (r1, r2, r3, r4, r5, r6, r7) := H; have A10 := aM A100; clear A100; have H' := aM H; clear H; have p121 : 0 ≤ (1 : Int) := (by omega); have q121 : 1 < (l0.length : Int) := of_decide_eq_true zA; obtain ⟨ad121, e121, hx121_0⟩ := Kd.at_string HR0.out 1 p121 q121; obtain rfl : ad120 = ad121 := (by injection e121)
      (try simp only [show (1 : Int).toNat = 1 from rfl, Nat.reduceMul, Nat.reduceEqDiff, Go.Addr.add, ↓reduceIte] at hx121_0)
      have qi121 : (1 < l0.length) = True := eq_true (by omega)
      (try rw [show ((1 : Int)).toNat = 1 from rfl] at hx121_0)
      have hn121_0 : ad120.block ≠ gb119 := Nat.ne_of_lt (Nat.lt_of_lt_of_le (by have := World.block_lt_of_cell? _ _ hx121_0; first | rwa [add_block] at this | exact this) GW119.out); replace hx121_0 := (HB.out.cell (World.block_lt_of_cell? w _ hx121_0)).trans hx121_0; replace hx121_0 := (cell_far (p := ⟨gb119, 3, none⟩) (by first | (rw [add_block]; exact hn121_0) | (show (Addr.add _ _).block ≠ _; rw [add_block]; exact hn121_0) | exact hn121_0) (.string (rdOf ByteArray.empty l0 2))).trans hx121_0; clear hn121_0; replace p121 := eq_true p121; replace q121 := eq_true q121; have p122 : 0 ≤ (1 : Int) := (by omega); have q122 : 1 < (l0.length : Int) := of_decide_eq_true zA; obtain ⟨ad122, e122, hx122_0⟩ := Kd.at_string HR0.out 1 p122 q122; obtain rfl : ad120 = ad122 := (by injection e122)
      (try simp only [show (1 : Int).toNat = 1 from rfl, Nat.reduceMul, Nat.reduceEqDiff, Go.Addr.add, ↓reduceIte] at hx122_0)
      have qi122 : (1 < l0.length) = True := eq_true (by omega)
      (try rw [show ((1 : Int)).toNat = 1 from rfl] at hx122_0)
      have hn122_0 : ad120.block ≠ gb119 := Nat.ne_of_lt (Nat.lt_of_lt_of_le (by have := World.block_lt_of_cell? _ _ hx122_0; first | rwa [add_block] at this | exact this) GW119.out); replace hx122_0 := (HB.out.cell (World.block_lt_of_cell? w _ hx122_0)).trans hx122_0; replace hx122_0 := (cell_far (p := ⟨gb119, 3, none⟩) (by first | (rw [add_block]; exact hn122_0) | (show (Addr.add _ _).block ≠ _; rw [add_block]; exact hn122_0) | exact hn122_0) (.string (rdOf ByteArray.empty l0 2))).trans hx122_0; clear hn122_0; replace p122 := eq_true p122; replace q122 := eq_true q122
      go_wp2_with (first | (go_at_call 158; (with_reducible refine (head_digits.calls k (rdOf ByteArray.empty l0 1) true _ A8.out).mono ?_); rintro e w' ⟨rfl, ⟨nd, rfl⟩⟩; obtain ⟨_, _, _, _, _, _, _, _, _, _, _, _⟩ := cz6 BK119.out) | (go_at_call 70; (with_reducible refine (head_reason.calls k (rdOf ByteArray.empty l0 2) t124 _ A10.out).mono ?_); rintro e w' ⟨rfl, ⟨nd, rfl⟩⟩))
      go_meet
      case rel => exact ⟨_, (!t124), zR, H', ⟨by first | omega | exact Nat.le_refl _⟩, ⟨by (with_reducible repeat (first | refine bN ?_ _ | refine bD ?_ | refine bA ?_ _)); refine blk_put (cs := #[.string (⟨#[]⟩ : ByteArray), .string (⟨#[]⟩ : ByteArray), .int .i64 0, .string (⟨#[]⟩ : ByteArray), .int .i64 0, .slice none 0 0]) ?_ 3 _ rfl; (with_reducible repeat (first | refine bN ?_ _ | refine bD ?_ | refine bA ?_ _)); exact BK119.out⟩, ⟨zB⟩⟩
     ·replace c9 := Bool.eq_false_iff.mpr c9; subst c9; rw [if_neg (show ¬ (false = true) by decide)] at H; have H' := aM H; clear H; have p121 : 0 ≤ (1 : Int) := (by omega); have q121 : 1 < (l0.length : Int) := of_decide_eq_true zA; obtain ⟨ad121, e121, hx121_0⟩ := Kd.at_string HR0.out 1 p121 q121; obtain rfl : ad120 = ad121 := (by injection e121)
      (try simp only [show (1 : Int).toNat = 1 from rfl, Nat.reduceMul, Nat.reduceEqDiff, Go.Addr.add, ↓reduceIte] at hx121_0)
      have qi121 : (1 < l0.length) = True := eq_true (by omega)
      (try rw [show ((1 : Int)).toNat = 1 from rfl] at hx121_0)
      have hn121_0 : ad120.block ≠ gb119 := Nat.ne_of_lt (Nat.lt_of_lt_of_le (by have := World.block_lt_of_cell? _ _ hx121_0; first | rwa [add_block] at this | exact this) GW119.out); replace hx121_0 := (HB.out.cell (World.block_lt_of_cell? w _ hx121_0)).trans hx121_0; replace hx121_0 := (cell_far (p := ⟨gb119, 3, none⟩) (by first | (rw [add_block]; exact hn121_0) | (show (Addr.add _ _).block ≠ _; rw [add_block]; exact hn121_0) | exact hn121_0) (.string (rdOf ByteArray.empty l0 2))).trans hx121_0; clear hn121_0; replace p121 := eq_true p121; replace q121 := eq_true q121; have p122 : 0 ≤ (1 : Int) := (by omega); have q122 : 1 < (l0.length : Int) := of_decide_eq_true zA; obtain ⟨ad122, e122, hx122_0⟩ := Kd.at_string HR0.out 1 p122 q122; obtain rfl : ad120 = ad122 := (by injection e122)
      (try simp only [show (1 : Int).toNat = 1 from rfl, Nat.reduceMul, Nat.reduceEqDiff, Go.Addr.add, ↓reduceIte] at hx122_0)
      have qi122 : (1 < l0.length) = True := eq_true (by omega)
      (try rw [show ((1 : Int)).toNat = 1 from rfl] at hx122_0)
      have hn122_0 : ad120.block ≠ gb119 := Nat.ne_of_lt (Nat.lt_of_lt_of_le (by have := World.block_lt_of_cell? _ _ hx122_0; first | rwa [add_block] at this | exact this) GW119.out); replace hx122_0 := (HB.out.cell (World.block_lt_of_cell? w _ hx122_0)).trans hx122_0; replace hx122_0 := (cell_far (p := ⟨gb119, 3, none⟩) (by first | (rw [add_block]; exact hn122_0) | (show (Addr.add _ _).block ≠ _; rw [add_block]; exact hn122_0) | exact hn122_0) (.string (rdOf ByteArray.empty l0 2))).trans hx122_0; clear hn122_0; replace p122 := eq_true p122; replace q122 := eq_true q122
      go_wp2_with (first | (go_at_call 158; (with_reducible refine (head_digits.calls k (rdOf ByteArray.empty l0 1) false _ A8.out).mono ?_); rintro e w' ⟨rfl, ⟨nd, rfl⟩⟩))
      go_meet
      case rel => exact ⟨_, (true), zR, H', ⟨by first | omega | exact Nat.le_refl _⟩, ⟨by (with_reducible repeat (first | refine bN ?_ _ | refine bD ?_ | refine bA ?_ _)); refine blk_put (cs := #[.string (⟨#[]⟩ : ByteArray), .string (⟨#[]⟩ : ByteArray), .int .i64 0, .string (⟨#[]⟩ : ByteArray), .int .i64 0, .slice none 0 0]) ?_ 3 _ rfl; (with_reducible repeat (first | refine bN ?_ _ | refine bD ?_ | refine bA ?_ _)); exact BK119.out⟩, ⟨zB⟩⟩
    ·rw [if_neg c7] at H; obtain ⟨c7b0, c7b1⟩ := ze c7; have H' := aM H; clear H; have p121 : 0 ≤ (1 : Int) := (by omega); have q121 : 1 < (l0.length : Int) := of_decide_eq_true zA; obtain ⟨ad121, e121, hx121_0⟩ := Kd.at_string HR0.out 1 p121 q121; obtain rfl : ad120 = ad121 := (by injection e121)
     (try simp only [show (1 : Int).toNat = 1 from rfl, Nat.reduceMul, Nat.reduceEqDiff, Go.Addr.add, ↓reduceIte] at hx121_0)
     have qi121 : (1 < l0.length) = True := eq_true (by omega)
     (try rw [show ((1 : Int)).toNat = 1 from rfl] at hx121_0)
     have hn121_0 : ad120.block ≠ gb119 := Nat.ne_of_lt (Nat.lt_of_lt_of_le (by have := World.block_lt_of_cell? _ _ hx121_0; first | rwa [add_block] at this | exact this) GW119.out); replace hx121_0 := (HB.out.cell (World.block_lt_of_cell? w _ hx121_0)).trans hx121_0; replace hx121_0 := (cell_far (p := ⟨gb119, 3, none⟩) (by first | (rw [add_block]; exact hn121_0) | (show (Addr.add _ _).block ≠ _; rw [add_block]; exact hn121_0) | exact hn121_0) (.string (rdOf ByteArray.empty l0 2))).trans hx121_0; clear hn121_0; replace p121 := eq_true p121; replace q121 := eq_true q121
     go_wp2
     go_meet
     case rel => exact ⟨_, (true), zR, H', ⟨by first | omega | exact Nat.le_refl _⟩, ⟨by (with_reducible repeat (first | refine bN ?_ _ | refine bD ?_ | refine bA ?_ _)); refine blk_put (cs := #[.string (⟨#[]⟩ : ByteArray), .string (⟨#[]⟩ : ByteArray), .int .i64 0, .string (⟨#[]⟩ : ByteArray), .int .i64 0, .slice none 0 0]) ?_ 3 _ rfl; (with_reducible repeat (first | refine bN ?_ _ | refine bD ?_ | refine bA ?_ _)); exact BK119.out⟩, ⟨zB⟩⟩
   ·exact zf c6 H
  case rest =>
   clear HC3; (try clear c1); (try clear p1); (try clear q1); (try clear hx1); (try clear qi1); (try clear c2); (try clear c2b0); (try clear c2b1); (try clear p2); (try clear c6); (try clear c6b0); (try clear c6b1); (try clear c7); (try clear c7b0); (try clear c7b1); (try clear c9); (try clear hx120_0); (try clear hx121_0); (try clear hx122_0); (try clear p120); (try clear p121); (try clear p122); (try clear q120); (try clear q121); (try clear q122); obtain ⟨kq, x25_2, rfl, HA, HJ2, BK119, HB⟩ := hcut; cases kq with
   | zero => exact absurd HA.out (by simp [head_answer.j0])
   | succ kj2 =>
    have H := HA.out; clear HA; simp only [head_answer.j0] at H; by_cases c12 : x25_2 = true
    ·subst c12; rw [if_pos rfl] at H; simp only [Option.some.injEq, Prod.mk.injEq] at H; obtain ⟨rfl, rfl, rfl, rfl, rfl, rfl, rfl⟩ := H; obtain ⟨_, _, _, _, _, _, _, _, _, _, _, _⟩ := cz6 BK119.out
     go_wp2
     refine bodyPost_ret (results_ct rfl _ _ gb119 29 #[.string (⟨#[]⟩ : ByteArray), .string (⟨#[]⟩ : ByteArray), .int .i64 0, .string (rdOf ByteArray.empty l0 2), .int .i64 0, .slice none 0 0] (0, 0) _ rfl (zQ6 BK119.out) Tryz.underlying29 rfl (by kernel_rfl)) rfl ?_
     exact ⟨_, zE, by first | exact Kd.R_nil _ _ _ _ _ | exact Kd.N_nil _ _ _ _ _ | exact Kd.V_nil _ _ _ _ _ | exact Kd.Q_nil _ _ _ _ _ | exact Kd.S_nil _ _ _ _ _, zB⟩
    ·replace c12 := Bool.eq_false_iff.mpr c12; subst c12; rw [if_neg (show ¬ (false = true) by decide)] at H; by_cases c14 : 0 < (l0.length : Int)
     ·rw [if_pos c14] at H; have c14b0 := decide_eq_true c14; have c14b1 : decide (0 < l0.length) = true := decide_eq_true (by omega); clear c14; obtain ⟨⟨t126, t127⟩, A15, H⟩ := zc H; (try dsimp only at H); by_cases c16 : t127 = 0
      ·rw [if_pos c16] at H; obtain ⟨c16b0, c16b1⟩ := zd c16; clear c16; by_cases c17 : 1 < (l0.length : Int)
       ·rw [if_pos c17] at H; have c17b0 := decide_eq_true c17; have c17b1 : decide (1 < l0.length) = true := decide_eq_true (by omega); clear c17; obtain ⟨⟨t129, t130⟩, A18, H⟩ := zc H; (try dsimp only at H); obtain ⟨t131, A19, H⟩ := zc H; (try dsimp only at H); by_cases c20 : t131 = true
        ·subst c20; rw [if_pos rfl] at H; simp only [Option.some.injEq, Prod.mk.injEq] at H; obtain ⟨rfl, rfl, rfl, rfl, rfl, rfl, rfl⟩ := H; have p125 : 0 ≤ (0 : Int) := (by omega); have q125 : 0 < (l0.length : Int) := of_decide_eq_true zA; obtain ⟨ad125, e125, hx125_0⟩ := Kd.at_string HR0.out 0 p125 q125; obtain rfl : ad120 = ad125 := (by injection e125); have qi125 : (0 < l0.length) = True := eq_true (by omega)
         (try rw [show ((0 : Int)).toNat = 0 from rfl] at hx125_0)
         (try rw [Addr.add_zero'] at hx125_0)
         replace hx125_0 := (HB.out.cell (World.block_lt_of_cell? w _ hx125_0)).trans hx125_0; replace p125 := eq_true p125; replace q125 := eq_true q125
         go_wp2_with (first | ((with_reducible refine gate_callee (f := 157) rfl ?_); refine goesL_ (some 31) rfl rfl Tryz.func157 (by kernel_rfl) rfl #[.string (rdOf ByteArray.empty l0 0)] rfl zL ?_; (with_reducible refine (head_version.calls kj2 (rdOf ByteArray.empty l0 0) t126 t127 _ A15.out).mono ?_); rintro e w' ⟨rfl, ⟨nd, rfl⟩⟩; refine ⟨_, rfl, ?_⟩; (try (rw [drewN_self wc]; generalize hq_ : World.drewN wc _ = wc; have n0_ : Aside0 (wc.heap[gb119]? = some (.cells #[.string (⟨#[]⟩ : ByteArray), .string (⟨#[]⟩ : ByteArray), .int .i64 0, .string (rdOf ByteArray.empty l0 2), .int .i64 0, .slice none 0 0] 29 (0, 0))) := ⟨by rw [← hq_]; exact zK BK119.out⟩; have n1_ : Aside0 (Below w.heap.size w wc) := ⟨by rw [← hq_]; exact zB⟩; clear BK119 HB hq_; have BK119 := n0_; have HB := n1_; clear n0_ n1_)); obtain ⟨_, _, _, _, _, _, _, _, _, _, _, _⟩ := cz6 BK119.out; have p128 : 0 ≤ (1 : Int) := (by omega); have q128 : 1 < (l0.length : Int) := of_decide_eq_true zA; obtain ⟨ad128, e128, hx128_0⟩ := Kd.at_string HR0.out 1 p128 q128; obtain rfl : ad120 = ad128 := (by injection e128); (try simp only [show (1 : Int).toNat = 1 from rfl, Nat.reduceMul, Nat.reduceEqDiff, Go.Addr.add, ↓reduceIte] at hx128_0); have qi128 : (1 < l0.length) = True := eq_true (by omega); (try rw [show ((1 : Int)).toNat = 1 from rfl] at hx128_0); have hn128_0 : ad120.block ≠ gb119 := Nat.ne_of_lt (Nat.lt_of_lt_of_le (by have := World.block_lt_of_cell? _ _ hx128_0; first | rwa [add_block] at this | exact this) GW119.out); replace hx128_0 := (HB.out.cell (World.block_lt_of_cell? w _ hx128_0)).trans hx128_0; replace hx128_0 := (cell_far (p := ⟨gb119, 4, none⟩) (by first | (rw [add_block]; exact hn128_0) | (show (Addr.add _ _).block ≠ _; rw [add_block]; exact hn128_0) | exact hn128_0) (.int .i64 t126)).trans hx128_0; clear hn128_0; replace p128 := eq_true p128; replace q128 := eq_true q128) | ((with_reducible refine gate_callee (f := 159) rfl ?_); refine goesL_ (some 43) rfl rfl Tryz.func159 (by kernel_rfl) rfl #[.string (rdOf ByteArray.empty l0 1), .int .i64 10] rfl zL ?_; (with_reducible refine (num_Parse.calls kj2 (rdOf ByteArray.empty l0 1) 10 t129 t130 _ A18.out).mono ?_); rintro e w' ⟨rfl, ⟨nd, rfl⟩⟩; refine ⟨_, rfl, ?_⟩) | ((with_reducible refine gate_callee (f := 69) rfl ?_); refine goesL_ (some 49) rfl rfl Tryz.func69 (by kernel_rfl) rfl #[.int .i64 t129] rfl zL ?_; (with_reducible refine (head_status.calls t129 true _ A19.out).mono ?_); rintro e w' ⟨rfl, ⟨nd, rfl⟩⟩; refine ⟨_, rfl, ?_⟩))
         refine bodyPost_ret (results_ct rfl _ _ gb119 29 #[.string (⟨#[]⟩ : ByteArray), .string (⟨#[]⟩ : ByteArray), .int .i64 t129, .string (rdOf ByteArray.empty l0 2), .int .i64 t126, .slice none 0 0] (0, 0) _ rfl (zQ6 BK119.out) Tryz.underlying29 rfl (by kernel_rfl)) rfl ?_
         exact ⟨_, zE, by first | exact Kd.R_nil _ _ _ _ _ | exact Kd.N_nil _ _ _ _ _ | exact Kd.V_nil _ _ _ _ _ | exact Kd.Q_nil _ _ _ _ _ | exact Kd.S_nil _ _ _ _ _, zB⟩
        ·replace c20 := Bool.eq_false_iff.mpr c20; subst c20; rw [if_neg (show ¬ (false = true) by decide)] at H; simp only [Option.some.injEq, Prod.mk.injEq] at H; obtain ⟨rfl, rfl, rfl, rfl, rfl, rfl, rfl⟩ := H; have p125 : 0 ≤ (0 : Int) := (by omega); have q125 : 0 < (l0.length : Int) := of_decide_eq_true zA; obtain ⟨ad125, e125, hx125_0⟩ := Kd.at_string HR0.out 0 p125 q125; obtain rfl : ad120 = ad125 := (by injection e125); have qi125 : (0 < l0.length) = True := eq_true (by omega)
         (try rw [show ((0 : Int)).toNat = 0 from rfl] at hx125_0)
         (try rw [Addr.add_zero'] at hx125_0)
         replace hx125_0 := (HB.out.cell (World.block_lt_of_cell? w _ hx125_0)).trans hx125_0; replace p125 := eq_true p125; replace q125 := eq_true q125
         go_wp2_with (first | ((with_reducible refine gate_callee (f := 157) rfl ?_); refine goesL_ (some 31) rfl rfl Tryz.func157 (by kernel_rfl) rfl #[.string (rdOf ByteArray.empty l0 0)] rfl zL ?_; (with_reducible refine (head_version.calls kj2 (rdOf ByteArray.empty l0 0) t126 t127 _ A15.out).mono ?_); rintro e w' ⟨rfl, ⟨nd, rfl⟩⟩; refine ⟨_, rfl, ?_⟩; (try (rw [drewN_self wc]; generalize hq_ : World.drewN wc _ = wc; have n0_ : Aside0 (wc.heap[gb119]? = some (.cells #[.string (⟨#[]⟩ : ByteArray), .string (⟨#[]⟩ : ByteArray), .int .i64 0, .string (rdOf ByteArray.empty l0 2), .int .i64 0, .slice none 0 0] 29 (0, 0))) := ⟨by rw [← hq_]; exact zK BK119.out⟩; have n1_ : Aside0 (Below w.heap.size w wc) := ⟨by rw [← hq_]; exact zB⟩; clear BK119 HB hq_; have BK119 := n0_; have HB := n1_; clear n0_ n1_)); obtain ⟨_, _, _, _, _, _, _, _, _, _, _, _⟩ := cz6 BK119.out; have p128 : 0 ≤ (1 : Int) := (by omega); have q128 : 1 < (l0.length : Int) := of_decide_eq_true zA; obtain ⟨ad128, e128, hx128_0⟩ := Kd.at_string HR0.out 1 p128 q128; obtain rfl : ad120 = ad128 := (by injection e128); (try simp only [show (1 : Int).toNat = 1 from rfl, Nat.reduceMul, Nat.reduceEqDiff, Go.Addr.add, ↓reduceIte] at hx128_0); have qi128 : (1 < l0.length) = True := eq_true (by omega); (try rw [show ((1 : Int)).toNat = 1 from rfl] at hx128_0); have hn128_0 : ad120.block ≠ gb119 := Nat.ne_of_lt (Nat.lt_of_lt_of_le (by have := World.block_lt_of_cell? _ _ hx128_0; first | rwa [add_block] at this | exact this) GW119.out); replace hx128_0 := (HB.out.cell (World.block_lt_of_cell? w _ hx128_0)).trans hx128_0; replace hx128_0 := (cell_far (p := ⟨gb119, 4, none⟩) (by first | (rw [add_block]; exact hn128_0) | (show (Addr.add _ _).block ≠ _; rw [add_block]; exact hn128_0) | exact hn128_0) (.int .i64 t126)).trans hx128_0; clear hn128_0; replace p128 := eq_true p128; replace q128 := eq_true q128) | ((with_reducible refine gate_callee (f := 159) rfl ?_); refine goesL_ (some 43) rfl rfl Tryz.func159 (by kernel_rfl) rfl #[.string (rdOf ByteArray.empty l0 1), .int .i64 10] rfl zL ?_; (with_reducible refine (num_Parse.calls kj2 (rdOf ByteArray.empty l0 1) 10 t129 t130 _ A18.out).mono ?_); rintro e w' ⟨rfl, ⟨nd, rfl⟩⟩; refine ⟨_, rfl, ?_⟩) | ((with_reducible refine gate_callee (f := 69) rfl ?_); refine goesL_ (some 49) rfl rfl Tryz.func69 (by kernel_rfl) rfl #[.int .i64 t129] rfl zL ?_; (with_reducible refine (head_status.calls t129 false _ A19.out).mono ?_); rintro e w' ⟨rfl, ⟨nd, rfl⟩⟩; refine ⟨_, rfl, ?_⟩))
         refine bodyPost_ret (results_ct rfl _ _ gb119 29 #[.string (⟨#[]⟩ : ByteArray), .string (⟨#[]⟩ : ByteArray), .int .i64 t129, .string (rdOf ByteArray.empty l0 2), .int .i64 t126, .slice none 0 0] (0, 0) _ rfl (zQ6 BK119.out) Tryz.underlying29 rfl (by kernel_rfl)) rfl ?_
         exact ⟨_, zE, by first | exact Kd.R_nil _ _ _ _ _ | exact Kd.N_nil _ _ _ _ _ | exact Kd.V_nil _ _ _ _ _ | exact Kd.Q_nil _ _ _ _ _ | exact Kd.S_nil _ _ _ _ _, zB⟩
       ·exact zf c17 H
      ·rw [if_neg c16] at H; obtain ⟨c16b0, c16b1⟩ := ze c16; simp only [Option.some.injEq, Prod.mk.injEq] at H; obtain ⟨rfl, rfl, rfl, rfl, rfl, rfl, rfl⟩ := H; have p125 : 0 ≤ (0 : Int) := (by omega); have q125 : 0 < (l0.length : Int) := of_decide_eq_true zA; obtain ⟨ad125, e125, hx125_0⟩ := Kd.at_string HR0.out 0 p125 q125; obtain rfl : ad120 = ad125 := (by injection e125); have qi125 : (0 < l0.length) = True := eq_true (by omega)
       (try rw [show ((0 : Int)).toNat = 0 from rfl] at hx125_0)
       (try rw [Addr.add_zero'] at hx125_0)
       replace hx125_0 := (HB.out.cell (World.block_lt_of_cell? w _ hx125_0)).trans hx125_0; replace p125 := eq_true p125; replace q125 := eq_true q125
       go_wp2_with (first | ((with_reducible refine gate_callee (f := 157) rfl ?_); refine goesL_ (some 31) rfl rfl Tryz.func157 (by kernel_rfl) rfl #[.string (rdOf ByteArray.empty l0 0)] rfl zL ?_; (with_reducible refine (head_version.calls kj2 (rdOf ByteArray.empty l0 0) t126 t127 _ A15.out).mono ?_); rintro e w' ⟨rfl, ⟨nd, rfl⟩⟩; refine ⟨_, rfl, ?_⟩; (try (rw [drewN_self wc]; generalize hq_ : World.drewN wc _ = wc; have n0_ : Aside0 (wc.heap[gb119]? = some (.cells #[.string (⟨#[]⟩ : ByteArray), .string (⟨#[]⟩ : ByteArray), .int .i64 0, .string (rdOf ByteArray.empty l0 2), .int .i64 0, .slice none 0 0] 29 (0, 0))) := ⟨by rw [← hq_]; exact zK BK119.out⟩; have n1_ : Aside0 (Below w.heap.size w wc) := ⟨by rw [← hq_]; exact zB⟩; clear BK119 HB hq_; have BK119 := n0_; have HB := n1_; clear n0_ n1_)); obtain ⟨_, _, _, _, _, _, _, _, _, _, _, _⟩ := cz6 BK119.out))
       refine bodyPost_ret (results_ct rfl _ _ gb119 29 #[.string (⟨#[]⟩ : ByteArray), .string (⟨#[]⟩ : ByteArray), .int .i64 0, .string (rdOf ByteArray.empty l0 2), .int .i64 t126, .slice none 0 0] (0, 0) _ rfl (zQ6 BK119.out) Tryz.underlying29 rfl (by kernel_rfl)) rfl ?_
       exact ⟨_, zE, by first | exact Kd.R_nil _ _ _ _ _ | exact Kd.N_nil _ _ _ _ _ | exact Kd.V_nil _ _ _ _ _ | exact Kd.Q_nil _ _ _ _ _ | exact Kd.S_nil _ _ _ _ _, zB⟩
     ·exact zf c14 H
 ·exact zf c2 H

def field_Parse.j0 : Nat → Bool → ByteArray → ByteArray → Option (ByteArray × ByteArray × Int)
 | 0, _, _, _ => none
 | k + 1, x31, x138000, x138001 => if x31 = true then (some ((⟨#[]⟩ : ByteArray), (⟨#[]⟩ : ByteArray), 21)) else (some (x138000, x138001, 0))
def field_Parse.f (k : Nat) (a0 : ByteArray) : Option (ByteArray × ByteArray × Int) := (strings_Cut.f a0 (⟨#[58]⟩ : ByteArray)).bind fun bt133 => ((field_Trim.f bt133.2.1).bind fun t136 => (if bt133.2.2 = true then ((field_Name.f bt133.1).bind fun t138 => (if t138 = true then ((field_Value.f t136).bind fun t139 => (field_Parse.j0 k (!t139) bt133.1 t136)) else (field_Parse.j0 k true bt133.1 t136))) else (field_Parse.j0 k true bt133.1 t136)))
theorem field_Parse.mono_l : ∀ k, (∀ y0 y1 y2, LeO (field_Parse.j0 k y0 y1 y2) (field_Parse.j0 (k + 1) y0 y1 y2))
 | 0 => fun _ _ _ r h => by simp [field_Parse.j0] at h
 | k + 1 => by
  have ih0 := field_Parse.mono_l k
  ·intro y0 y1 y2
   unfold field_Parse.j0; exact zM
theorem field_Parse.mono : ∀ a0 k, LeO (field_Parse.f k a0) (field_Parse.f (k + 1) a0) := by
 intro a0 k
 have ih0 := field_Parse.mono_l k
 unfold field_Parse.f; exact zM
set_option maxHeartbeats 8000000 in
set_option maxRecDepth 100000 in
theorem field_Parse.calls (k : Nat) (a0 : ByteArray) (r1 : ByteArray) (r2 : ByteArray) (r3 : Int) (w : World) (h : field_Parse.f k a0 = some (r1, r2, r3)) :
  Calls Tryz.prog 136 #[.string a0] w fun e w' => e = .returned (.tuple #[.agg #[.string r1, .string r2], .int .i64 r3]) ∧ Below w.heap.size w w' := by
 have hu40 := Tryz.underlying40; have HB := aM (Below.refl w.heap.size w); have H := h; unfold field_Parse.f at H; clear h; obtain ⟨⟨t133, t134, t135⟩, A2, H⟩ := zc H; (try dsimp only at H); obtain ⟨t136, A3, H⟩ := zc H; (try dsimp only at H); have HC4 := aM H; clear H
 go_enter Tryz.func136, Tryz.ntmps136
 go_upto_region 3 with (first | ((with_reducible refine gate_dst (N := 2) rfl ?_); refine box_event ?hg (N := 2) ?hd (cs := #[.string (⟨#[]⟩ : ByteArray), .string (⟨#[]⟩ : ByteArray)]) (t := 40) ?hr ?_; (case hd => rfl); (case hg => rfl); (case hr => exact zG); intro gb132 hg w5 hbox hb; have BK132 := aM hbox; have GW132 := aM (by rw [hg]; exact (below_size zB) : w.heap.size ≤ gb132); replace HB := aM (below_step zB hb); have GE132 := GW132; clear hb hbox hg) | ((with_reducible refine gate_callee (f := 160) rfl ?_); refine goesL_ (some 10) rfl rfl Tryz.func160 (by kernel_rfl) rfl #[.string a0, .string (⟨#[58]⟩ : ByteArray)] rfl zL ?_; (with_reducible refine (strings_Cut.calls a0 (⟨#[58]⟩ : ByteArray) t133 t134 t135 _ A2.out).mono ?_); rintro e w' ⟨rfl, ⟨nd, rfl⟩⟩; refine ⟨_, rfl, ?_⟩; (try (rw [drewN_self w5]; generalize hq_ : World.drewN w5 _ = w5; have n0_ : Aside0 (w5.heap[gb132]? = some (.cells #[.string (⟨#[]⟩ : ByteArray), .string (⟨#[]⟩ : ByteArray)] 40 (0, 0))) := ⟨by rw [← hq_]; exact zK BK132.out⟩; have n1_ : Aside0 (Below w.heap.size w w5) := ⟨by rw [← hq_]; exact zB⟩; clear BK132 HB hq_; have BK132 := n0_; have HB := n1_; clear n0_ n1_))) | ((with_reducible refine gate_callee (f := 92) rfl ?_); refine goesL_ (some 16) rfl rfl Tryz.func92 (by kernel_rfl) rfl #[.string t134] rfl zL ?_; (with_reducible refine (field_Trim.calls t134 t136 _ A3.out).mono ?_); rintro e w6 ⟨rfl, hb⟩; refine ⟨_, rfl, ?_⟩; replace BK132 := aM (zX BK132.out hb); replace HB := aM (below_step zB hb); clear hb) | ((with_reducible refine gate_dst (N := 7) rfl ?_); refine box_event ?hg (N := 7) ?hd (cs := #[.string (⟨#[]⟩ : ByteArray), .string (⟨#[]⟩ : ByteArray)]) (t := 40) ?hr ?_; (case hd => rfl); (case hg => rfl); (case hr => exact zG); intro gb137 hg w7 hbox hb; have BK137 := aM hbox; have GW137 := aM (by rw [hg]; exact (below_size zB) : w.heap.size ≤ gb137); replace HB := aM (below_step zB hb); have GE137 := GW137; have NB132_137 := aM (by rw [hg]; exact Nat.ne_of_lt (blk_lt (zK BK132.out)) : gb132 ≠ gb137); replace BK132 := aM (zX BK132.out hb); have NB137_132 := aM NB132_137.out.symm; clear hb hbox hg; have hnb8 := NB137_132.out; have hnc8 := NB132_137.out; obtain ⟨_, _, _, _⟩ := cz2 BK137.out))
 (try simp only [Act.put, List.setIfInBounds_toArray, List.set_cons_zero, List.set_cons_succ])
 go_cut [31] (fun v31 wc => ∃ (kq : Nat) (x31_3 : Bool), v31 = .bool x31_3 ∧ Aside0 (field_Parse.j0 kq x31_3 t133 t136 = some (r1, r2, r3)) ∧ Aside0 (kq ≤ k) ∧ Aside0 (wc.heap[gb132]? = some (.cells #[.string (⟨#[]⟩ : ByteArray), .string (⟨#[]⟩ : ByteArray)] 40 (0, 0))) ∧ Aside0 (wc.heap[gb137]? = some (.cells #[.string t133, .string t136] 40 (0, 0))) ∧ Aside0 (Below w.heap.size w wc))
 case first =>
  have H := HC4.out; clear HC4; by_cases c10 : t135 = true
  ·subst c10; rw [if_pos rfl] at H; replace H := Option.bind_eq_some_iff.mp H; obtain ⟨t138, A110, H⟩ := H; replace H : (if t138 = true then ((field_Value.f t136).bind fun t139 => (field_Parse.j0 k (!t139) t133 t136)) else (field_Parse.j0 k true t133 t136)) = some (r1, r2, r3) := H; have A11 := aM A110; clear A110; by_cases c12 : t138 = true
   ·subst c12; rw [if_pos rfl] at H; replace H := Option.bind_eq_some_iff.mp H; obtain ⟨t139, A130, H⟩ := H; replace H : (field_Parse.j0 k (!t139) t133 t136) = some (r1, r2, r3) := H; have A13 := aM A130; clear A130; have H' := aM H; clear H; have hnb14 := NB137_132.out; have hnc14 := NB132_137.out; obtain ⟨_, _, _, _⟩ := cz2 BK137.out
    go_wp2_with (first | (go_at_call 66; (with_reducible refine (field_Name.calls t133 true _ A11.out).mono ?_); rintro e w' ⟨rfl, ⟨nd, rfl⟩⟩) | (go_at_call 67; (with_reducible refine (field_Value.calls t136 t139 _ A13.out).mono ?_); rintro e w16 ⟨rfl, hb⟩; replace BK132 := aM (blk_below (g := gb132) (o := .cells #[.string (⟨#[]⟩ : ByteArray), .string (⟨#[]⟩ : ByteArray)] 40 (0, 0)) (zF BK132.out) hb); replace BK137 := aM (blk_below (g := gb137) (o := .cells #[.string t133, .string t136] 40 (0, 0)) (zQ2 BK137.out) hb); replace HB := aM (below_step zB hb); clear hb))
    go_meet
    case rel => exact ⟨_, (!t139), zR, H', ⟨by first | omega | exact Nat.le_refl _⟩, ⟨zK BK132.out⟩, ⟨zK BK137.out⟩, ⟨zB⟩⟩
   ·replace c12 := Bool.eq_false_iff.mpr c12; subst c12; rw [if_neg (show ¬ (false = true) by decide)] at H; have H' := aM H; clear H; have hnb17 := NB137_132.out; have hnc17 := NB132_137.out; obtain ⟨_, _, _, _⟩ := cz2 BK137.out
    go_wp2_with (first | (go_at_call 66; (with_reducible refine (field_Name.calls t133 false _ A11.out).mono ?_); rintro e w' ⟨rfl, ⟨nd, rfl⟩⟩))
    go_meet
    case rel => exact ⟨_, (true), zR, H', ⟨by first | omega | exact Nat.le_refl _⟩, ⟨zF BK132.out⟩, ⟨zQ2 BK137.out⟩, ⟨zB⟩⟩
  ·replace c10 := Bool.eq_false_iff.mpr c10; subst c10; rw [if_neg (show ¬ (false = true) by decide)] at H; have H' := aM H; clear H
   go_wp2
   go_meet
   case rel => exact ⟨_, (true), zR, H', ⟨by first | omega | exact Nat.le_refl _⟩, ⟨zF BK132.out⟩, ⟨zQ2 BK137.out⟩, ⟨zB⟩⟩
 case rest =>
  clear HC4; (try clear c1); (try clear p2); (try clear c8); (try clear c9); (try clear c10); (try clear c12); (try clear c13); (try clear c14); (try clear c16); (try clear c17); obtain ⟨kq, x31_3, rfl, HA, HJ3, BK132, BK137, HB⟩ := hcut; cases kq with
  | zero => exact absurd HA.out (by simp [field_Parse.j0])
  | succ kj3 =>
   have H := HA.out; clear HA; simp only [field_Parse.j0] at H; by_cases c19 : x31_3 = true
   ·subst c19; rw [if_pos rfl] at H; simp only [Option.some.injEq, Prod.mk.injEq] at H; obtain ⟨rfl, rfl, rfl⟩ := H; have hnb20 := NB132_137.out; have hnc20 := NB137_132.out; obtain ⟨_, _, _, _⟩ := cz2 BK132.out
    go_wp2
    refine bodyPost_ret (results_ct rfl _ _ gb132 40 #[.string (⟨#[]⟩ : ByteArray), .string (⟨#[]⟩ : ByteArray)] (0, 0) _ rfl (zQ2 BK132.out) Tryz.underlying40 rfl (by kernel_rfl)) rfl ?_
    exact ⟨zE, zB⟩
   ·replace c19 := Bool.eq_false_iff.mpr c19; subst c19; rw [if_neg (show ¬ (false = true) by decide)] at H; simp only [Option.some.injEq, Prod.mk.injEq] at H; obtain ⟨rfl, rfl, rfl⟩ := H; have hnb22 := NB137_132.out; have hnc22 := NB132_137.out; obtain ⟨_, _, _, _⟩ := cz2 BK137.out; obtain ⟨_, _, _, _⟩ := cz2 BK132.out
    go_wp2
    refine bodyPost_ret (results_ct rfl _ _ gb132 40 #[.string t133, .string t136] (0, 0) _ rfl (zQ2 BK132.out) Tryz.underlying40 rfl (by kernel_rfl)) rfl ?_
    exact ⟨zE, zB⟩

def IsS67 (w0 W : World) (g : Nat) (f0 : List Int) (f1 : Int) : Prop := ∃ A0 c0, W.heap[g]? = some (.cells #[.slice A0 f0.length c0, .int .i64 f1] 67 (0, 0)) ∧ w0.heap.size ≤ g ∧ Kd.C (Kd.int .u8) w0 A0 f0.length f0
theorem IsS67.grown {w0 W : World} {g : Nat} {f0 : List Int} {f1 : Int} {W1 : World} {row : Option Nat} (h : IsS67 w0 W g f0 f1) (hw : W.grownBy W1 row) (hne : some g ≠ row) : IsS67 w0 W1 g f0 f1 := by
 obtain ⟨A0, c0, hb, hg, hr0⟩ := h
 exact ⟨A0, c0, blk_grown hb hw hne, hg, hr0⟩
theorem IsS67.fresh {w0 W : World} {g : Nat} {f0 : List Int} {f1 : Int} (h : IsS67 w0 W g f0 f1) : ∀ k, W.heap.size ≤ k → k ≠ g := by
 obtain ⟨A0, c0, hb, hg, hr0⟩ := h
 exact Kd.freshB hb
theorem IsS67.kept {w0 W : World} {g : Nat} {f0 : List Int} {f1 : Int} {W1 : World} {S : Nat → Prop} (h : IsS67 w0 W g f0 f1) (hk : Kept W W1 S) (hne : ¬ S g) : IsS67 w0 W1 g f0 f1 := by
 obtain ⟨A0, c0, hb, hg, hr0⟩ := h
 exact ⟨A0, c0, blk_kept hb hk hne, hg, hr0⟩
theorem IsS67.below {w0 W : World} {g : Nat} {f0 : List Int} {f1 : Int} {W1 : World} (h : IsS67 w0 W g f0 f1) (hw : Below W.heap.size W W1) : IsS67 w0 W1 g f0 f1 := h.grown (grown_of_below hw none) (by simp)
theorem IsS67.alloc {w0 W : World} {g : Nat} {f0 : List Int} {f1 : Int} (h : IsS67 w0 W g f0 f1) (o : Obj) : IsS67 w0 (W.alloc o) g f0 f1 := h.below (lA (Below.refl _ _) o)
theorem IsS67.drewN {w0 W : World} {g : Nat} {f0 : List Int} {f1 : Int} (h : IsS67 w0 W g f0 f1) (m : Nat) : IsS67 w0 (W.drewN m) g f0 f1 := h
theorem IsS67.drew {w0 W : World} {g : Nat} {f0 : List Int} {f1 : Int} (h : IsS67 w0 W g f0 f1) : IsS67 w0 W.drew g f0 f1 := h
theorem IsS67.at_ {w0 W : World} {g : Nat} {f0 : List Int} {f1 : Int} {w' : World} {m : Nat} (hq : W.drewN m = w') (h : IsS67 w0 W g f0 f1) : IsS67 w0 w' g f0 f1 := by subst hq; exact IsS67.drewN h m
theorem IsS67.apart {w0 W : World} {g : Nat} {f0 : List Int} {f1 : Int} {α : Type} {d : Kd α} {e : Nat} {base : Nat} {ok : Nat → Prop} {v : Value} {xs : List α} (h : IsS67 w0 W g f0 f1) (ho : d.R e W base ok v xs) (ht : ∀ q, q ∈ e :: d.E → q ≠ 67) : d.R e W base (fun k => ok k ∧ k ≠ g) v xs := by
 obtain ⟨A0, c0, hb, hg, hr0⟩ := h
 exact Kd.R_types ho hb ht
theorem IsS67.own_ne {w0 W : World} {g : Nat} {f0 : List Int} {f1 : Int} {α : Type} {d : Kd α} {e : Nat} {base : Nat} {ok : Nat → Prop} {v : Value} {xs : List α} (h : IsS67 w0 W g f0 f1) (ho : d.R e W base ok v xs) (ht : e ≠ 67) : some g ≠ v.ownBlock := by
 obtain ⟨A0, c0, hb, hg, hr0⟩ := h
 exact Kd.R_ne ho hb ht
theorem IsS67.lt {w0 W : World} {g : Nat} {f0 : List Int} {f1 : Int} (h : IsS67 w0 W g f0 f1) : g < W.heap.size := by
 obtain ⟨A0, c0, hb, hg, hr0⟩ := h
 exact blk_lt hb
theorem IsS67.ge {w0 W : World} {g : Nat} {f0 : List Int} {f1 : Int} (h : IsS67 w0 W g f0 f1) : w0.heap.size ≤ g := by
 obtain ⟨A0, c0, hb, hg, hr0⟩ := h
 exact hg
theorem IsS67.far {w0 W : World} {g : Nat} {f0 : List Int} {f1 : Int} {p : Addr} (h : IsS67 w0 W g f0 f1) (hne : g ≠ p.block) (u : Value) : IsS67 w0 (W.setCell p u) g f0 f1 := by
 obtain ⟨A0, c0, hb, hg, hr0⟩ := h
 exact ⟨A0, c0, blk_far hb hne u, hg, hr0⟩
theorem cellS67_0 {W : World} {g : Nat} {A0 : Option Addr} {c0 : Nat} {f0 : List Int} {f1 : Int} (h : W.heap[g]? = some (.cells #[.slice A0 f0.length c0, .int .i64 f1] 67 (0, 0))) : W.cell? ⟨g, 0, none⟩ = some (.slice A0 f0.length c0) := (blk_cell h 0).trans rfl
theorem cellS67_1 {W : World} {g : Nat} {A0 : Option Addr} {c0 : Nat} {f0 : List Int} {f1 : Int} (h : W.heap[g]? = some (.cells #[.slice A0 f0.length c0, .int .i64 f1] 67 (0, 0))) : W.cell? ⟨g, 1, none⟩ = some (.int .i64 f1) := (blk_cell h 1).trans rfl
theorem IsS67.set_1 {w0 W : World} {g : Nat} {f0 : List Int} {f1 : Int} (h : IsS67 w0 W g f0 f1) (x : Int) : IsS67 w0 (W.setCell ⟨g, 1, none⟩ (.int .i64 x)) g f0 x := by
 obtain ⟨A0, c0, hb, hg, hr0⟩ := h
 exact ⟨A0, c0, by simpa using blk_set hb 1 (.int .i64 x), hg, hr0⟩
theorem IsS67.new (w0 W : World) (A0 : Option Addr) (c0 : Nat) (f0 : List Int) (f1 : Int) (hB : Below w0.heap.size w0 W) (hr0 : Kd.C (Kd.int .u8) w0 A0 f0.length f0) : IsS67 w0 (W.alloc (.cells #[.slice A0 f0.length c0, .int .i64 f1] 67)) W.heap.size f0 f1 := ⟨A0, c0, by simpa using heap_alloc_new W _, hB.size, hr0⟩

def lockagelaw06_Maker_Pick.f (s0_0 : List Int) (s0_1 : Int) (a1 : Int) : Option (Int × Int) := if (wrap64 (s0_1 + 1)) > (s0_0.length : Int) then (some (0, wrap64 (s0_1 + 1))) else (if 0 ≤ (wrap64 ((wrap64 (s0_1 + 1)) - 1)) then (if (wrap64 ((wrap64 (s0_1 + 1)) - 1)) < (s0_0.length : Int) then (if a1 = 0 then (none) else (some (Int.tmod (wrap64 (rd s0_0 (wrap64 ((wrap64 (s0_1 + 1)) - 1)))) a1, wrap64 (s0_1 + 1)))) else (none)) else (none))
set_option maxHeartbeats 8000000 in
set_option maxRecDepth 100000 in
theorem lockagelaw06_Maker_Pick.calls (g : Nat) (s0_0 : List Int) (s0_1 : Int) (a1 : Int) (r1 : Int) (r2 : Int) (w0 w : World) (hI : IsS67 w0 w g s0_0 s0_1) (hB : Below w0.heap.size w0 w) (h : lockagelaw06_Maker_Pick.f s0_0 s0_1 a1 = some (r1, r2)) :
  Calls Tryz.prog 49 #[.pointer (some ⟨g, 0, none⟩), .int .i64 a1] w fun e w' => e = .returned (.int .i64 r1) ∧ IsS67 w0 w' g s0_0 r2 ∧ Below w0.heap.size w0 w' ∧ KeepBut w w' g none := by
 have HI0 := aM hI; have HK := aM (KeepBut.refl w g none); have HL := aM hB.size; clear hI; have HW0 := aM hB.size; have HB := aM hB; clear hB; have H := h; unfold lockagelaw06_Maker_Pick.f at H; clear h; by_cases c3 : (wrap64 (s0_1 + 1)) > (s0_0.length : Int)
 ·rw [if_pos c3] at H; have c3b0 := decide_eq_true c3; clear c3; simp only [Option.some.injEq, Prod.mk.injEq] at H; obtain ⟨rfl, rfl⟩ := H; obtain ⟨ASz4_0, cSz4_0, HGz4, hgz4, HSz4_0⟩ := HI0.out; have hcz4_0 := cellS67_0 HGz4; have hcz4_1 := cellS67_1 HGz4; have hfz4_1 := blk_frozen HGz4 1; clear HGz4 hgz4
  go_enter Tryz.func49, Tryz.ntmps49
  go_wp2
  repeat (go_quiet (fail); try go_wp2)
  go_ret
  exact ⟨zE, by repeat (first | (with_reducible first | exact HI0.out | apply IsS67.alloc | apply IsS67.drewN | apply IsS67.drew | apply IsS67.set_1) | exact HI0.out), by repeat (first | (with_reducible first | exact HB.out | apply lA | apply lN | apply lD | refine below_set ?_ (IsS67.ge HI0.out)) | exact HB.out), by repeat (first | (with_reducible first | exact HK.out | apply KeepBut.set_ | apply keep_drewN | apply keep_drew | apply keep_alloc) | exact HK.out)⟩
 ·rw [if_neg c3] at H; have c3b0 := decide_eq_false c3; clear c3; obtain ⟨ji5, hji5⟩ : ∃ j_ : Int, (wrap64 ((wrap64 (s0_1 + 1)) - 1)) = j_ := ⟨_, rfl⟩
  (first | rw [hji5] at H | simp only [hji5] at H)
  have hji5w : (IntKind.i64.wrap ((wrap64 (s0_1 + 1)) - 1)) = ji5 := (i64_w _).trans hji5; by_cases c6 : 0 ≤ (ji5)
  ·rw [if_pos c6] at H; have c6b0 := decide_eq_true c6; clear c6; by_cases c7 : (ji5) < (s0_0.length : Int)
   ·rw [if_pos c7] at H; have c7b0 := decide_eq_true c7; clear c7; by_cases c8 : a1 = 0
    ·rw [if_pos c8] at H; exact absurd H (by simp)
    ·rw [if_neg c8] at H; obtain ⟨c8b0, c8b1⟩ := ze c8; simp only [Option.some.injEq, Prod.mk.injEq] at H; obtain ⟨rfl, rfl⟩ := H; obtain ⟨ASz9_0, cSz9_0, HGz9, hgz9, HSz9_0⟩ := HI0.out; have hcz9_0 := cellS67_0 HGz9; have hcz9_1 := cellS67_1 HGz9; have hfz9_1 := blk_frozen HGz9 1; clear HGz9 hgz9; have p140 : 0 ≤ ((ji5) : Int) := of_decide_eq_true zA; have q140 : (ji5) < (s0_0.length : Int) := of_decide_eq_true zA; obtain ⟨ad140, e140, hx140_0⟩ := Kd.at_int HSz9_0 (ji5) p140 q140; cases e140; have hn140_0 : ad140.block ≠ g := Nat.ne_of_lt (Nat.lt_of_lt_of_le (by have := World.block_lt_of_cell? _ _ hx140_0; first | rwa [add_block] at this | exact this) (IsS67.ge HI0.out)); replace hx140_0 := pw_cell_below HB.out hx140_0; replace hx140_0 := (cell_far (p := ⟨g, 1, none⟩) (by first | (rw [add_block]; exact hn140_0) | (show (Addr.add _ _).block ≠ _; rw [add_block]; exact hn140_0) | exact hn140_0) (.int .i64 (wrap64 (s0_1 + 1)))).trans hx140_0
     (try have hy140_0 := fun (n_ : Nat) => (show (((w.drewN n_).setCell ⟨g, 1, none⟩ (.int .i64 (wrap64 (s0_1 + 1))))).cell? _ = some _ from hx140_0))
     clear hn140_0; replace p140 := eq_true p140; replace q140 := eq_true q140
     go_enter Tryz.func49, Tryz.ntmps49
     go_wp2
     repeat (go_quiet (fail); try go_wp2)
     go_ret
     exact ⟨by first | rfl | (simp [errW_none, errW_some] <;> rfl) | (simp only [← hji5]; first | rfl | (simp [errW_none, errW_some] <;> rfl)) | (simp [*, errW_none, errW_some] <;> rfl), by repeat (first | (with_reducible first | exact HI0.out | apply IsS67.alloc | apply IsS67.drewN | apply IsS67.drew | apply IsS67.set_1) | exact HI0.out), by repeat (first | (with_reducible first | exact HB.out | apply lA | apply lN | apply lD | refine below_set ?_ (IsS67.ge HI0.out)) | exact HB.out), by repeat (first | (with_reducible first | exact HK.out | apply KeepBut.set_ | apply keep_drewN | apply keep_drew | apply keep_alloc) | exact HK.out)⟩
   ·exact zf c7 H
  ·exact zf c6 H

end Go.Proofs.YtapeodbgobkjeaaGreatDoor.P
