/- Printed by a program of the session out of the translation: plain Lean functions, each with the contract that the Go function computes it. -/
import Derived.Test.YtemhokkfefidlaaGreatDoorPx0
import Derived.Test.YtemhokkfefidlaaGreatDoorPx7
import Derived.Test.YtemhokkfefidlaaGreatDoorPx14
import Derived.Test.YtemhokkfefidlaaGreatDoorHZB
namespace Go.Proofs.YtemhokkfefidlaaGreatDoor.P
open Go.RowKit Go.Proofs.YtemhokkfefidlaaGreatDoorW.PrintWords Go.Proofs.YtemhokkfefidlaaGreatDoorW.PrintLast Go.Proofs.YtemhokkfefidlaaGreatDoorW.PrintMore
attribute [local go_sem] max2_int min2_int max_two min_two max_three min_three max_four min_four   -- for this text's walks alone
set_option linter.unusedVariables false
set_option linter.unusedSimpArgs false

def lockagelaw06_Pieces.l0 : Nat → List Int → List ByteArray → ByteArray → Int → Option (ByteArray)
 | 0, _, _, _, _ => none
 | k + 1, x0, x3, x4, x5 => if x5 < (x0.length : Int) then (if x5 < 16 then (if 0 ≤ x5 then (if (x3.length : Int) = 0 then (none) else (if 0 ≤ (Int.tmod (wrap64 (rd x0 x5)) (x3.length : Int)) then (if (Int.tmod (wrap64 (rd x0 x5)) (x3.length : Int)) < (x3.length : Int) then (if x4.size + (rdOf ByteArray.empty x3 (Int.tmod (wrap64 (rd x0 x5)) (x3.length : Int))).size ≤ 9223372036854775807 then (lockagelaw06_Pieces.l0 k x0 x3 (x4 ++ (rdOf ByteArray.empty x3 (Int.tmod (wrap64 (rd x0 x5)) (x3.length : Int)))) (wrap64 (x5 + 1))) else (none)) else (none)) else (none))) else (none)) else (some x4)) else (some x4)
def lockagelaw06_Pieces.f (k : Nat) (l0 : List Int) : Option (ByteArray) := lockagelaw06_Pieces.l0 k l0 (([(⟨#[71, 69, 84]⟩ : ByteArray), (⟨#[80, 79, 83, 84]⟩ : ByteArray), (⟨#[32]⟩ : ByteArray), (⟨#[47, 97]⟩ : ByteArray), (⟨#[47, 98, 63, 99, 61, 49]⟩ : ByteArray), (⟨#[72, 84, 84, 80, 47, 49, 46, 49]⟩ : ByteArray), (⟨#[72, 84, 84, 80, 47, 49, 46, 48]⟩ : ByteArray), (⟨#[72, 84, 84, 80, 47, 50, 46, 48]⟩ : ByteArray), (⟨#[72, 84, 84, 80, 47, 49]⟩ : ByteArray), (⟨#[50, 48, 48]⟩ : ByteArray), (⟨#[57, 57]⟩ : ByteArray), (⟨#[54, 48, 48]⟩ : ByteArray), (⟨#[79, 75]⟩ : ByteArray), (⟨#[13, 10]⟩ : ByteArray), (⟨#[72, 111, 115, 116, 58, 32, 120]⟩ : ByteArray), (⟨#[65, 58, 98]⟩ : ByteArray), (⟨#[65, 32, 58, 32, 98]⟩ : ByteArray), (⟨#[58]⟩ : ByteArray), (⟨#[13]⟩ : ByteArray), (⟨#[10]⟩ : ByteArray), (⟨#[9]⟩ : ByteArray), (⟨#[67, 111, 110, 116, 101, 110, 116, 45, 76, 101, 110, 103, 116, 104, 58, 32, 51]⟩ : ByteArray), (⟨#[32, 99]⟩ : ByteArray), (⟨#[]⟩ : ByteArray)] : List ByteArray)) (⟨#[]⟩ : ByteArray) 0
theorem lockagelaw06_Pieces.mono_l : ∀ k, (∀ y0 y1 y2 y3, LeO (lockagelaw06_Pieces.l0 k y0 y1 y2 y3) (lockagelaw06_Pieces.l0 (k + 1) y0 y1 y2 y3))
 | 0 => fun _ _ _ _ r h => by simp [lockagelaw06_Pieces.l0] at h
 | k + 1 => by
  have ih0 := lockagelaw06_Pieces.mono_l k
  ·intro y0 y1 y2 y3
   unfold lockagelaw06_Pieces.l0
   repeat' first
   | (with_reducible exact ih0 _ _ _ _)
   | (with_reducible exact LeO.refl _)
   | (with_reducible exact LeO.none _)
   | (with_reducible refine LeO.ite ?_ ?_)
   | (with_reducible refine LeO.bind ?_ (fun _ => ?_))
   | exact ih0 _ _ _ _
   | exact LeO.none _
   | refine LeO.ite ?_ ?_
   | refine LeO.bind ?_ (fun _ => ?_)
theorem lockagelaw06_Pieces.mono : ∀ a0 k, LeO (lockagelaw06_Pieces.f k a0) (lockagelaw06_Pieces.f (k + 1) a0) := by
 intro a0 k
 have ih0 := lockagelaw06_Pieces.mono_l k
 unfold lockagelaw06_Pieces.f
 repeat' first
   | (with_reducible exact ih0 _ _ _ _)
   | (with_reducible exact LeO.refl _)
   | (with_reducible exact LeO.none _)
   | (with_reducible refine LeO.ite ?_ ?_)
   | (with_reducible refine LeO.bind ?_ (fun _ => ?_))
   | exact ih0 _ _ _ _
   | exact LeO.none _
   | refine LeO.ite ?_ ?_
   | refine LeO.bind ?_ (fun _ => ?_)
set_option maxHeartbeats 8000000 in
set_option maxRecDepth 100000 in
theorem lockagelaw06_Pieces.calls (k : Nat) (A0 : Option Addr) (c0 : Nat) (l0 : List Int) (r : ByteArray) (w : World) (hr0 : Kd.C (Kd.int .u8) w A0 l0.length l0) (hc0 : l0.length ≤ c0) (h : lockagelaw06_Pieces.f k l0 = some r) :
  Calls Tryz.prog 10 #[.slice A0 l0.length c0] w fun e w' => e = .returned (.string r) ∧ Below w.heap.size w w' := by
 have HR0 := Aside0.mk hr0
 have HC0 := Aside0.mk hc0
 clear hr0 hc0
 have HB := Aside0.mk (Below.refl w.heap.size w)
 have H : (lockagelaw06_Pieces.l0 k l0 (([(⟨#[71, 69, 84]⟩ : ByteArray), (⟨#[80, 79, 83, 84]⟩ : ByteArray), (⟨#[32]⟩ : ByteArray), (⟨#[47, 97]⟩ : ByteArray), (⟨#[47, 98, 63, 99, 61, 49]⟩ : ByteArray), (⟨#[72, 84, 84, 80, 47, 49, 46, 49]⟩ : ByteArray), (⟨#[72, 84, 84, 80, 47, 49, 46, 48]⟩ : ByteArray), (⟨#[72, 84, 84, 80, 47, 50, 46, 48]⟩ : ByteArray), (⟨#[72, 84, 84, 80, 47, 49]⟩ : ByteArray), (⟨#[50, 48, 48]⟩ : ByteArray), (⟨#[57, 57]⟩ : ByteArray), (⟨#[54, 48, 48]⟩ : ByteArray), (⟨#[79, 75]⟩ : ByteArray), (⟨#[13, 10]⟩ : ByteArray), (⟨#[72, 111, 115, 116, 58, 32, 120]⟩ : ByteArray), (⟨#[65, 58, 98]⟩ : ByteArray), (⟨#[65, 32, 58, 32, 98]⟩ : ByteArray), (⟨#[58]⟩ : ByteArray), (⟨#[13]⟩ : ByteArray), (⟨#[10]⟩ : ByteArray), (⟨#[9]⟩ : ByteArray), (⟨#[67, 111, 110, 116, 101, 110, 116, 45, 76, 101, 110, 103, 116, 104, 58, 32, 51]⟩ : ByteArray), (⟨#[32, 99]⟩ : ByteArray), (⟨#[]⟩ : ByteArray)] : List ByteArray)) (⟨#[]⟩ : ByteArray) 0) = some r := h
 clear h
 obtain ⟨y369, hy369⟩ : ∃ y_ : List ByteArray, y_ = (([(⟨#[71, 69, 84]⟩ : ByteArray), (⟨#[80, 79, 83, 84]⟩ : ByteArray), (⟨#[32]⟩ : ByteArray), (⟨#[47, 97]⟩ : ByteArray), (⟨#[47, 98, 63, 99, 61, 49]⟩ : ByteArray), (⟨#[72, 84, 84, 80, 47, 49, 46, 49]⟩ : ByteArray), (⟨#[72, 84, 84, 80, 47, 49, 46, 48]⟩ : ByteArray), (⟨#[72, 84, 84, 80, 47, 50, 46, 48]⟩ : ByteArray), (⟨#[72, 84, 84, 80, 47, 49]⟩ : ByteArray), (⟨#[50, 48, 48]⟩ : ByteArray), (⟨#[57, 57]⟩ : ByteArray), (⟨#[54, 48, 48]⟩ : ByteArray), (⟨#[79, 75]⟩ : ByteArray), (⟨#[13, 10]⟩ : ByteArray), (⟨#[72, 111, 115, 116, 58, 32, 120]⟩ : ByteArray), (⟨#[65, 58, 98]⟩ : ByteArray), (⟨#[65, 32, 58, 32, 98]⟩ : ByteArray), (⟨#[58]⟩ : ByteArray), (⟨#[13]⟩ : ByteArray), (⟨#[10]⟩ : ByteArray), (⟨#[9]⟩ : ByteArray), (⟨#[67, 111, 110, 116, 101, 110, 116, 45, 76, 101, 110, 103, 116, 104, 58, 32, 51]⟩ : ByteArray), (⟨#[32, 99]⟩ : ByteArray), (⟨#[]⟩ : ByteArray)] : List ByteArray)) := ⟨_, rfl⟩
 replace H : (lockagelaw06_Pieces.l0 k l0 y369 (⟨#[]⟩ : ByteArray) 0) = some r := by first | (rw [hy369]; with_reducible exact H) | (have H2_ := (Option.bind_some _ _).symm.trans H; rw [hy369]; with_reducible exact H2_) | (have H2_ := (Option.bind_some _ _).symm.trans H; with_reducible exact H2_) | with_reducible exact H | (rw [hy369]; exact H) | exact H
 have Ny369 := Aside0.mk hy369
 clear hy369
 have H' := Aside0.mk H
 clear H
 go_enter Tryz.func10, Tryz.ntmps10
 go_wp2_with (first | ((with_reducible refine gate_dst (N := 6) rfl ?_); refine Kd.R_lit Kd.string _ 9 ?hg (N := 6) ?hd (xs := ([(⟨#[71, 69, 84]⟩ : ByteArray), (⟨#[80, 79, 83, 84]⟩ : ByteArray), (⟨#[32]⟩ : ByteArray), (⟨#[47, 97]⟩ : ByteArray), (⟨#[47, 98, 63, 99, 61, 49]⟩ : ByteArray), (⟨#[72, 84, 84, 80, 47, 49, 46, 49]⟩ : ByteArray), (⟨#[72, 84, 84, 80, 47, 49, 46, 48]⟩ : ByteArray), (⟨#[72, 84, 84, 80, 47, 50, 46, 48]⟩ : ByteArray), (⟨#[72, 84, 84, 80, 47, 49]⟩ : ByteArray), (⟨#[50, 48, 48]⟩ : ByteArray), (⟨#[57, 57]⟩ : ByteArray), (⟨#[54, 48, 48]⟩ : ByteArray), (⟨#[79, 75]⟩ : ByteArray), (⟨#[13, 10]⟩ : ByteArray), (⟨#[72, 111, 115, 116, 58, 32, 120]⟩ : ByteArray), (⟨#[65, 58, 98]⟩ : ByteArray), (⟨#[65, 32, 58, 32, 98]⟩ : ByteArray), (⟨#[58]⟩ : ByteArray), (⟨#[13]⟩ : ByteArray), (⟨#[10]⟩ : ByteArray), (⟨#[9]⟩ : ByteArray), (⟨#[67, 111, 110, 116, 101, 110, 116, 45, 76, 101, 110, 103, 116, 104, 58, 32, 51]⟩ : ByteArray), (⟨#[32, 99]⟩ : ByteArray), (⟨#[]⟩ : ByteArray)] : List ByteArray)) (inner := [.string (⟨#[71, 69, 84]⟩ : ByteArray), .string (⟨#[80, 79, 83, 84]⟩ : ByteArray), .string (⟨#[32]⟩ : ByteArray), .string (⟨#[47, 97]⟩ : ByteArray), .string (⟨#[47, 98, 63, 99, 61, 49]⟩ : ByteArray), .string (⟨#[72, 84, 84, 80, 47, 49, 46, 49]⟩ : ByteArray), .string (⟨#[72, 84, 84, 80, 47, 49, 46, 48]⟩ : ByteArray), .string (⟨#[72, 84, 84, 80, 47, 50, 46, 48]⟩ : ByteArray), .string (⟨#[72, 84, 84, 80, 47, 49]⟩ : ByteArray), .string (⟨#[50, 48, 48]⟩ : ByteArray), .string (⟨#[57, 57]⟩ : ByteArray), .string (⟨#[54, 48, 48]⟩ : ByteArray), .string (⟨#[79, 75]⟩ : ByteArray), .string (⟨#[13, 10]⟩ : ByteArray), .string (⟨#[72, 111, 115, 116, 58, 32, 120]⟩ : ByteArray), .string (⟨#[65, 58, 98]⟩ : ByteArray), .string (⟨#[65, 32, 58, 32, 98]⟩ : ByteArray), .string (⟨#[58]⟩ : ByteArray), .string (⟨#[13]⟩ : ByteArray), .string (⟨#[10]⟩ : ByteArray), .string (⟨#[9]⟩ : ByteArray), .string (⟨#[67, 111, 110, 116, 101, 110, 116, 45, 76, 101, 110, 103, 116, 104, 58, 32, 51]⟩ : ByteArray), .string (⟨#[32, 99]⟩ : ByteArray), .string (⟨#[]⟩ : ByteArray)]) (ok := fun _ => True) (okp := fun _ => True) ?hr ?hp (fun _ hk => hk) trivial (Below.refl _ _) (Nat.le_refl _) (by simp) ?_; (case hd => rfl); (case hg => rfl); (case hr => first | (go_simp; done) | (go_simp; rfl)); (case hp => exact (Reps.one (show Kd.M Kd.string _ _ _ (⟨#[71, 69, 84]⟩ : ByteArray) [.string (⟨#[71, 69, 84]⟩ : ByteArray)] from rfl) (Reps.one (show Kd.M Kd.string _ _ _ (⟨#[80, 79, 83, 84]⟩ : ByteArray) [.string (⟨#[80, 79, 83, 84]⟩ : ByteArray)] from rfl) (Reps.one (show Kd.M Kd.string _ _ _ (⟨#[32]⟩ : ByteArray) [.string (⟨#[32]⟩ : ByteArray)] from rfl) (Reps.one (show Kd.M Kd.string _ _ _ (⟨#[47, 97]⟩ : ByteArray) [.string (⟨#[47, 97]⟩ : ByteArray)] from rfl) (Reps.one (show Kd.M Kd.string _ _ _ (⟨#[47, 98, 63, 99, 61, 49]⟩ : ByteArray) [.string (⟨#[47, 98, 63, 99, 61, 49]⟩ : ByteArray)] from rfl) (Reps.one (show Kd.M Kd.string _ _ _ (⟨#[72, 84, 84, 80, 47, 49, 46, 49]⟩ : ByteArray) [.string (⟨#[72, 84, 84, 80, 47, 49, 46, 49]⟩ : ByteArray)] from rfl) (Reps.one (show Kd.M Kd.string _ _ _ (⟨#[72, 84, 84, 80, 47, 49, 46, 48]⟩ : ByteArray) [.string (⟨#[72, 84, 84, 80, 47, 49, 46, 48]⟩ : ByteArray)] from rfl) (Reps.one (show Kd.M Kd.string _ _ _ (⟨#[72, 84, 84, 80, 47, 50, 46, 48]⟩ : ByteArray) [.string (⟨#[72, 84, 84, 80, 47, 50, 46, 48]⟩ : ByteArray)] from rfl) (Reps.one (show Kd.M Kd.string _ _ _ (⟨#[72, 84, 84, 80, 47, 49]⟩ : ByteArray) [.string (⟨#[72, 84, 84, 80, 47, 49]⟩ : ByteArray)] from rfl) (Reps.one (show Kd.M Kd.string _ _ _ (⟨#[50, 48, 48]⟩ : ByteArray) [.string (⟨#[50, 48, 48]⟩ : ByteArray)] from rfl) (Reps.one (show Kd.M Kd.string _ _ _ (⟨#[57, 57]⟩ : ByteArray) [.string (⟨#[57, 57]⟩ : ByteArray)] from rfl) (Reps.one (show Kd.M Kd.string _ _ _ (⟨#[54, 48, 48]⟩ : ByteArray) [.string (⟨#[54, 48, 48]⟩ : ByteArray)] from rfl) (Reps.one (show Kd.M Kd.string _ _ _ (⟨#[79, 75]⟩ : ByteArray) [.string (⟨#[79, 75]⟩ : ByteArray)] from rfl) (Reps.one (show Kd.M Kd.string _ _ _ (⟨#[13, 10]⟩ : ByteArray) [.string (⟨#[13, 10]⟩ : ByteArray)] from rfl) (Reps.one (show Kd.M Kd.string _ _ _ (⟨#[72, 111, 115, 116, 58, 32, 120]⟩ : ByteArray) [.string (⟨#[72, 111, 115, 116, 58, 32, 120]⟩ : ByteArray)] from rfl) (Reps.one (show Kd.M Kd.string _ _ _ (⟨#[65, 58, 98]⟩ : ByteArray) [.string (⟨#[65, 58, 98]⟩ : ByteArray)] from rfl) (Reps.one (show Kd.M Kd.string _ _ _ (⟨#[65, 32, 58, 32, 98]⟩ : ByteArray) [.string (⟨#[65, 32, 58, 32, 98]⟩ : ByteArray)] from rfl) (Reps.one (show Kd.M Kd.string _ _ _ (⟨#[58]⟩ : ByteArray) [.string (⟨#[58]⟩ : ByteArray)] from rfl) (Reps.one (show Kd.M Kd.string _ _ _ (⟨#[13]⟩ : ByteArray) [.string (⟨#[13]⟩ : ByteArray)] from rfl) (Reps.one (show Kd.M Kd.string _ _ _ (⟨#[10]⟩ : ByteArray) [.string (⟨#[10]⟩ : ByteArray)] from rfl) (Reps.one (show Kd.M Kd.string _ _ _ (⟨#[9]⟩ : ByteArray) [.string (⟨#[9]⟩ : ByteArray)] from rfl) (Reps.one (show Kd.M Kd.string _ _ _ (⟨#[67, 111, 110, 116, 101, 110, 116, 45, 76, 101, 110, 103, 116, 104, 58, 32, 51]⟩ : ByteArray) [.string (⟨#[67, 111, 110, 116, 101, 110, 116, 45, 76, 101, 110, 103, 116, 104, 58, 32, 51]⟩ : ByteArray)] from rfl) (Reps.one (show Kd.M Kd.string _ _ _ (⟨#[32, 99]⟩ : ByteArray) [.string (⟨#[32, 99]⟩ : ByteArray)] from rfl) (Reps.one (show Kd.M Kd.string _ _ _ (⟨#[]⟩ : ByteArray) [.string (⟨#[]⟩ : ByteArray)] from rfl) (Reps.none _ _)))))))))))))))))))))))))); intro v370 w2 ho3 hb hg_ hnew_; clear hg_ hnew_; (first | rw [← Ny369.out] at ho3 | (simp only [Int.reduceToNat] at ho3; rw [← Ny369.out] at ho3)); have n0_ := Aside0.mk (Kd.R_lower ho3 (below_size (by repeat (first | (with_reducible first | exact HB.out | apply below_alloc | apply pw_below_drewN | apply below_drew1) | exact HB.out)))); have n1_ := Aside0.mk (below_step (by repeat (first | (with_reducible first | exact HB.out | apply below_alloc | apply pw_below_drewN | apply below_drew1) | exact HB.out)) hb); clear HB; have HO371 := n0_; have HB := n1_; clear n0_ n1_; clear hb ho3))
 go_loopg [4, 5] k (fun kq v4 v5 w' => ∃ (x4_1 : ByteArray) (x5_1 : Int), v4 = .string x4_1 ∧ v5 = .int .i64 x5_1 ∧ Aside0 (lockagelaw06_Pieces.l0 kq l0 y369 x4_1 x5_1 = some r) ∧ Aside0 (kq ≤ k) ∧ Aside0 (Kd.R Kd.string 9 w' w.heap.size (fun _ => True) v370 y369) ∧ Aside0 (Below w.heap.size w w'))
 case atStart => exact ⟨((⟨#[]⟩ : ByteArray)), (0), (by first | rfl | (simp; done) | (simp [*]; done)), (by first | rfl | (simp; done) | (simp [*]; done)), H', ⟨Nat.le_refl _⟩, ⟨by (with_reducible repeat (first | apply Kd.R_alloc | apply Kd.R_drewN | apply Kd.R_drew)); exact HO371.out⟩, ⟨by repeat (first | (with_reducible first | exact HB.out | apply below_alloc | apply pw_below_drewN | apply below_drew1) | exact HB.out)⟩⟩
 case round =>
  clear H'
  try clear c1
  try clear p2
  obtain ⟨x4_1, x5_1, rfl, rfl, HA, HK1, HO_3, HB⟩ := hrel
  cases gk with
  | zero => exact absurd HA.out (by simp [lockagelaw06_Pieces.l0])
  | succ k1 =>
   have H := HA.out
   clear HA
   simp only [lockagelaw06_Pieces.l0] at H
   by_cases c4 : x5_1 < (l0.length : Int)
   ·rw [if_pos c4] at H
    have c4b0 : decide (x5_1 < (l0.length : Int)) = true := decide_eq_true c4
    clear c4
    by_cases c5 : x5_1 < 16
    ·rw [if_pos c5] at H
     have c5b0 : decide (x5_1 < 16) = true := decide_eq_true c5
     clear c5
     by_cases c6 : 0 ≤ x5_1
     ·rw [if_pos c6] at H
      have c6b0 : decide (0 ≤ x5_1) = true := decide_eq_true c6
      clear c6
      by_cases c7 : (y369.length : Int) = 0
      ·rw [if_pos c7] at H
       exact absurd H (by simp)
      ·rw [if_neg c7] at H
       have c7b0 : ((y369.length : Int) == 0) = false := beq_eq_false_iff_ne.mpr c7
       have c7b1 : ((y369.length : Int) != 0) = true := bne_iff_ne.mpr c7
       have c7b2 : ¬ (y369 = []) := fun h_ => c7 (by rw [h_]; rfl)
       obtain ⟨ji8, hji8⟩ : ∃ j_ : Int, (Int.tmod (wrap64 (rd l0 x5_1)) (y369.length : Int)) = j_ := ⟨_, rfl⟩
       replace H : (if 0 ≤ (ji8) then (if (ji8) < (y369.length : Int) then (if x4_1.size + (rdOf ByteArray.empty y369 (ji8)).size ≤ 9223372036854775807 then (lockagelaw06_Pieces.l0 k1 l0 y369 (x4_1 ++ (rdOf ByteArray.empty y369 (ji8))) (wrap64 (x5_1 + 1))) else (none)) else (none)) else (none)) = some r := by first | (rw [hji8] at H; exact H) | (simp only [hji8] at H ⊢; exact H)
       by_cases c9 : 0 ≤ (ji8)
       ·rw [if_pos c9] at H
        have c9b0 : decide (0 ≤ (ji8)) = true := decide_eq_true c9
        clear c9
        by_cases c10 : (ji8) < (y369.length : Int)
        ·rw [if_pos c10] at H
         have c10b0 : decide ((ji8) < (y369.length : Int)) = true := decide_eq_true c10
         clear c10
         by_cases c11 : x4_1.size + (rdOf ByteArray.empty y369 (ji8)).size ≤ 9223372036854775807
         ·rw [if_pos c11] at H
          have c11b0 := eq_true c11
          have c11b1 : decide (x4_1.size + (rdOf ByteArray.empty y369 (ji8)).size ≤ 9223372036854775807) = true := decide_eq_true c11
          try have c11b2 : (9223372036854775807 < x4_1.size + (rdOf ByteArray.empty y369 (ji8)).size) = False := eq_false (Nat.not_lt.2 c11)
          have H' := Aside0.mk H
          clear H
          have p372 : 0 ≤ (x5_1 : Int) := of_decide_eq_true (by first | (with_reducible assumption) | assumption)
          have q372 : x5_1 < (l0.length : Int) := of_decide_eq_true (by first | (with_reducible assumption) | assumption)
          obtain ⟨ad372, e372, hx372_0⟩ := Kd.at_int HR0.out x5_1 p372 q372
          cases e372
          replace hx372_0 := (HB.out.cell (World.block_lt_of_cell? w _ hx372_0)).trans hx372_0
          replace p372 := eq_true p372
          replace q372 := eq_true q372
          obtain ⟨Ao12, co12, eo12⟩ := Kd.R_slice HO_3.out
          subst eo12
          have p373 : 0 ≤ ((ji8) : Int) := of_decide_eq_true (by first | (with_reducible assumption) | assumption)
          have q373 : (ji8) < (y369.length : Int) := of_decide_eq_true (by first | (with_reducible assumption) | assumption)
          obtain ⟨ad373, e373, hx373_0⟩ := Kd.at_string (Kd.R_reads' HO_3.out).2.2 (ji8) p373 q373
          cases e373
          replace p373 := eq_true p373
          replace q373 := eq_true q373
          go_wp2
          go_roundg k1
          case measure => have := HK1.out; omega
          case rel => exact ⟨(x4_1 ++ (rdOf ByteArray.empty y369 (ji8))), (wrap64 (x5_1 + 1)), (by first | rfl | (simp; done) | (simp only [← hji8] <;> (first | rfl | simp)) | (simp [*]; done)), (by first | rfl | (simp; done) | (simp [*]; done)), H', ⟨by have := HK1.out; omega⟩, ⟨by (with_reducible repeat (first | apply Kd.R_alloc | apply Kd.R_drewN | apply Kd.R_drew)); exact HO_3.out⟩, ⟨by repeat (first | (with_reducible first | exact HB.out | apply below_alloc | apply pw_below_drewN | apply below_drew1) | exact HB.out)⟩⟩
         ·rw [if_neg c11] at H
          exact absurd H (by simp)
        ·rw [if_neg c10] at H
         exact absurd H (by simp)
       ·rw [if_neg c9] at H
        exact absurd H (by simp)
     ·rw [if_neg c6] at H
      exact absurd H (by simp)
    ·rw [if_neg c5] at H
     have c5b0 : decide (x5_1 < 16) = false := decide_eq_false c5
     clear c5
     obtain rfl := Option.some.inj H
     go_wp2
     go_ret
     exact ⟨by first | rfl | (simp [errW_none, errW_some] <;> rfl) | (simp [*, errW_none, errW_some] <;> rfl), by repeat (first | (with_reducible first | exact HB.out | apply below_alloc | apply pw_below_drewN | apply below_drew1) | exact HB.out)⟩
   ·rw [if_neg c4] at H
    have c4b0 : decide (x5_1 < (l0.length : Int)) = false := decide_eq_false c4
    clear c4
    obtain rfl := Option.some.inj H
    go_wp2
    go_ret
    exact ⟨by first | rfl | (simp [errW_none, errW_some] <;> rfl) | (simp [*, errW_none, errW_some] <;> rfl), by repeat (first | (with_reducible first | exact HB.out | apply below_alloc | apply pw_below_drewN | apply below_drew1) | exact HB.out)⟩

def lockagelaw06_HeadSmall.f (k : Nat) (l0 : List Int) (a1 : Int) : Option (Bool) := (lockagelaw06_awake.f k).bind fun t374 => (if t374 = true then ((some (([(⟨#[]⟩ : ByteArray), (⟨#[71, 69, 84, 32, 47, 32, 72, 84, 84, 80, 47, 49, 46, 49, 13, 10]⟩ : ByteArray), (⟨#[72, 84, 84, 80, 47, 49, 46, 49, 32, 50, 48, 48, 32, 79, 75, 13, 10]⟩ : ByteArray), (⟨#[71, 69, 84, 32]⟩ : ByteArray)] : List ByteArray) : List ByteArray)).bind fun y375 => (if 0 ≤ (Int.tmod (wrap64 (a1)) 4) then (if (Int.tmod (wrap64 (a1)) 4) < (y375.length : Int) then ((lockagelaw06_Pieces.f k l0).bind fun t379 => (if (rdOf ByteArray.empty y375 (Int.tmod (wrap64 (a1)) 4)).size + t379.size ≤ 9223372036854775807 then ((lockagelaw06_same.f k ((rdOf ByteArray.empty y375 (Int.tmod (wrap64 (a1)) 4)) ++ t379)).bind fun t380 => (some t380)) else (none))) else (none)) else (none))) else (none))
theorem lockagelaw06_HeadSmall.mono : ∀ a0 a1 k, LeO (lockagelaw06_HeadSmall.f k a0 a1) (lockagelaw06_HeadSmall.f (k + 1) a0 a1) := by
 intro a0 a1 k
 unfold lockagelaw06_HeadSmall.f
 repeat' first
   | (with_reducible exact lockagelaw06_Pieces.mono _ _)
   | (with_reducible exact lockagelaw06_awake.mono _)
   | (with_reducible exact lockagelaw06_same.mono _ _)
   | (with_reducible exact LeO.refl _)
   | (with_reducible exact LeO.none _)
   | (with_reducible refine LeO.ite ?_ ?_)
   | (with_reducible refine LeO.bind ?_ (fun _ => ?_))
   | exact lockagelaw06_Pieces.mono _ _
   | exact lockagelaw06_awake.mono _
   | exact lockagelaw06_same.mono _ _
   | exact LeO.none _
   | refine LeO.ite ?_ ?_
   | refine LeO.bind ?_ (fun _ => ?_)
def lockagelaw06_HeadSmall.T1 : Bool × List (List Nat × List Nat) := (true, [([], []), ([0, 0], [0]), ([1], [1]), ([1], [1]), ([3, 1], [1, 3]), ([4, 1], [1, 4]), ([2, 5, 1], [1, 2, 5]), ([6, 1], [1, 6]), ([1], [1]), ([8, 1, 1], [1, 8]), ([7, 9, 1], [1, 7, 9]), ([10, 9, 1], [1, 10]), ([1, 11], [1, 11]), ([12, 11, 0, 1, 2, 3, 4, 5, 6, 7, 8, 9, 10, 11, 12], [12])])
def lockagelaw06_HeadSmall.B1 : List Nat := [0, 1, 3, 3, 11, 27, 63, 127, 3, 259, 1023, 2047, 4095, 8191]
theorem lockagelaw06_HeadSmall.tab1 : rtab .any (opsOf Tryz.f4 1) = lockagelaw06_HeadSmall.T1 := by kernel_rfl
theorem lockagelaw06_HeadSmall.bits1 : waitsOk lockagelaw06_HeadSmall.T1.2 lockagelaw06_HeadSmall.B1 = true := by kernel_rfl
set_option maxHeartbeats 8000000 in
set_option maxRecDepth 100000 in
theorem lockagelaw06_HeadSmall.calls (k : Nat) (A0 : Option Addr) (c0 : Nat) (l0 : List Int) (a1 : Int) (r : Bool) (w : World) (hr0 : Kd.C (Kd.int .u8) w A0 l0.length l0) (hc0 : l0.length ≤ c0) (hG_ : H.GlobOk w) (h : lockagelaw06_HeadSmall.f k l0 a1 = some r) :
  Calls Tryz.prog 4 #[.slice A0 l0.length c0, .int .u8 a1] w fun e w' => e = .returned (.bool r) ∧ Below w.heap.size w w' := by
 have HG_ := Aside0.mk hG_
 clear hG_
 have HR0 := Aside0.mk hr0
 have HC0 := Aside0.mk hc0
 clear hr0 hc0
 have HB := Aside0.mk (Below.refl w.heap.size w)
 have H : ((lockagelaw06_awake.f k).bind fun t374 => (if t374 = true then ((some (([(⟨#[]⟩ : ByteArray), (⟨#[71, 69, 84, 32, 47, 32, 72, 84, 84, 80, 47, 49, 46, 49, 13, 10]⟩ : ByteArray), (⟨#[72, 84, 84, 80, 47, 49, 46, 49, 32, 50, 48, 48, 32, 79, 75, 13, 10]⟩ : ByteArray), (⟨#[71, 69, 84, 32]⟩ : ByteArray)] : List ByteArray) : List ByteArray)).bind fun y375 => (if 0 ≤ (Int.tmod (wrap64 (a1)) 4) then (if (Int.tmod (wrap64 (a1)) 4) < (y375.length : Int) then ((lockagelaw06_Pieces.f k l0).bind fun t379 => (if (rdOf ByteArray.empty y375 (Int.tmod (wrap64 (a1)) 4)).size + t379.size ≤ 9223372036854775807 then ((lockagelaw06_same.f k ((rdOf ByteArray.empty y375 (Int.tmod (wrap64 (a1)) 4)) ++ t379)).bind fun t380 => (some t380)) else (none))) else (none)) else (none))) else (none))) = some r := h
 clear h
 replace H := Option.bind_eq_some_iff.mp H
 obtain ⟨t374, A30, H⟩ := H
 replace H : (if t374 = true then ((some (([(⟨#[]⟩ : ByteArray), (⟨#[71, 69, 84, 32, 47, 32, 72, 84, 84, 80, 47, 49, 46, 49, 13, 10]⟩ : ByteArray), (⟨#[72, 84, 84, 80, 47, 49, 46, 49, 32, 50, 48, 48, 32, 79, 75, 13, 10]⟩ : ByteArray), (⟨#[71, 69, 84, 32]⟩ : ByteArray)] : List ByteArray) : List ByteArray)).bind fun y375 => (if 0 ≤ (Int.tmod (wrap64 (a1)) 4) then (if (Int.tmod (wrap64 (a1)) 4) < (y375.length : Int) then ((lockagelaw06_Pieces.f k l0).bind fun t379 => (if (rdOf ByteArray.empty y375 (Int.tmod (wrap64 (a1)) 4)).size + t379.size ≤ 9223372036854775807 then ((lockagelaw06_same.f k ((rdOf ByteArray.empty y375 (Int.tmod (wrap64 (a1)) 4)) ++ t379)).bind fun t380 => (some t380)) else (none))) else (none)) else (none))) else (none)) = some r := H
 have A3 := Aside0.mk A30
 clear A30
 by_cases c4 : t374 = true
 ·subst c4
  have H1 : ((some (([(⟨#[]⟩ : ByteArray), (⟨#[71, 69, 84, 32, 47, 32, 72, 84, 84, 80, 47, 49, 46, 49, 13, 10]⟩ : ByteArray), (⟨#[72, 84, 84, 80, 47, 49, 46, 49, 32, 50, 48, 48, 32, 79, 75, 13, 10]⟩ : ByteArray), (⟨#[71, 69, 84, 32]⟩ : ByteArray)] : List ByteArray) : List ByteArray)).bind fun y375 => (if 0 ≤ (Int.tmod (wrap64 (a1)) 4) then (if (Int.tmod (wrap64 (a1)) 4) < (y375.length : Int) then ((lockagelaw06_Pieces.f k l0).bind fun t379 => (if (rdOf ByteArray.empty y375 (Int.tmod (wrap64 (a1)) 4)).size + t379.size ≤ 9223372036854775807 then ((lockagelaw06_same.f k ((rdOf ByteArray.empty y375 (Int.tmod (wrap64 (a1)) 4)) ++ t379)).bind fun t380 => (some t380)) else (none))) else (none)) else (none))) = some r := by rw [if_pos rfl] at H; exact H
  clear H
  have H := H1
  clear H1
  obtain ⟨y375, hy375⟩ : ∃ y_ : List ByteArray, y_ = (([(⟨#[]⟩ : ByteArray), (⟨#[71, 69, 84, 32, 47, 32, 72, 84, 84, 80, 47, 49, 46, 49, 13, 10]⟩ : ByteArray), (⟨#[72, 84, 84, 80, 47, 49, 46, 49, 32, 50, 48, 48, 32, 79, 75, 13, 10]⟩ : ByteArray), (⟨#[71, 69, 84, 32]⟩ : ByteArray)] : List ByteArray)) := ⟨_, rfl⟩
  replace H : (if 0 ≤ (Int.tmod (wrap64 (a1)) 4) then (if (Int.tmod (wrap64 (a1)) 4) < (y375.length : Int) then ((lockagelaw06_Pieces.f k l0).bind fun t379 => (if (rdOf ByteArray.empty y375 (Int.tmod (wrap64 (a1)) 4)).size + t379.size ≤ 9223372036854775807 then ((lockagelaw06_same.f k ((rdOf ByteArray.empty y375 (Int.tmod (wrap64 (a1)) 4)) ++ t379)).bind fun t380 => (some t380)) else (none))) else (none)) else (none)) = some r := by first | (rw [hy375]; with_reducible exact H) | (have H2_ := (Option.bind_some _ _).symm.trans H; rw [hy375]; with_reducible exact H2_) | (have H2_ := (Option.bind_some _ _).symm.trans H; with_reducible exact H2_) | with_reducible exact H | (rw [hy375]; exact H) | exact H
  have Ny375 := Aside0.mk hy375
  clear hy375
  obtain ⟨ji5, hji5⟩ : ∃ j_ : Int, (Int.tmod (wrap64 (a1)) 4) = j_ := ⟨_, rfl⟩
  replace H : (if 0 ≤ (ji5) then (if (ji5) < (y375.length : Int) then ((lockagelaw06_Pieces.f k l0).bind fun t379 => (if (rdOf ByteArray.empty y375 (ji5)).size + t379.size ≤ 9223372036854775807 then ((lockagelaw06_same.f k ((rdOf ByteArray.empty y375 (ji5)) ++ t379)).bind fun t380 => (some t380)) else (none))) else (none)) else (none)) = some r := by first | (rw [hji5] at H; exact H) | (simp only [hji5] at H ⊢; exact H)
  (try rw [hji5] at A3)
  by_cases c6 : 0 ≤ (ji5)
  ·rw [if_pos c6] at H
   have c6b0 : decide (0 ≤ (ji5)) = true := decide_eq_true c6
   clear c6
   by_cases c7 : (ji5) < (y375.length : Int)
   ·rw [if_pos c7] at H
    have c7b0 : decide ((ji5) < (y375.length : Int)) = true := decide_eq_true c7
    clear c7
    replace H := Option.bind_eq_some_iff.mp H
    obtain ⟨t379, A80, H⟩ := H
    replace H : (if (rdOf ByteArray.empty y375 (ji5)).size + t379.size ≤ 9223372036854775807 then ((lockagelaw06_same.f k ((rdOf ByteArray.empty y375 (ji5)) ++ t379)).bind fun t380 => (some t380)) else (none)) = some r := H
    have A8 := Aside0.mk A80
    clear A80
    by_cases c9 : (rdOf ByteArray.empty y375 (ji5)).size + t379.size ≤ 9223372036854775807
    ·rw [if_pos c9] at H
     have c9b0 := eq_true c9
     have c9b1 : decide ((rdOf ByteArray.empty y375 (ji5)).size + t379.size ≤ 9223372036854775807) = true := decide_eq_true c9
     try have c9b2 : (9223372036854775807 < (rdOf ByteArray.empty y375 (ji5)).size + t379.size) = False := eq_false (Nat.not_lt.2 c9)
     replace H := Option.bind_eq_some_iff.mp H
     obtain ⟨t380, A100, H⟩ := H
     replace H : (some t380) = some r := H
     have A10 := Aside0.mk A100
     clear A100
     obtain rfl := Option.some.inj H
     go_enter Tryz.func4, Tryz.ntmps4
     try go_wp2
     have pi378 : (0 ≤ ((ji5) : Int)) = True := eq_true (of_decide_eq_true (by first | (with_reducible assumption) | assumption))
     have qi378 : ((ji5) < (y375.length : Int)) = True := eq_true (of_decide_eq_true (by first | (with_reducible assumption) | assumption))
     have n0_ := Aside0.mk (below_drew1 HB.out)
     clear HB
     have HB := n0_
     clear n0_
     refine start_ (n := 14) (S := fun w' => True) (ds := []) #[false, false, false, false, false, false, false, false, false, false, false, false, false, false] (by kernel_rfl) rfl rfl trivial (fun hHeld => ?_); refine with_tabW lockagelaw06_HeadSmall.tab1 lockagelaw06_HeadSmall.bits1 (fun HT_ HW_ => ?_)
     generalize w.drew = w11 at HB hHeld ⊢
     refine inv_at [0, 1, 2, 3, 4, 5, 6, 7, 8, 9, 10, 11, 12, 13] (fun a0_ b a w' => ∃ (v376 : Value) (adz_v376 : Addr) (m6_ : Value), a = putSel a0_ b [(0, 5, .bool true), (1, 6, .bool true), (2, 7, v376), (3, 8, .int .u8 a1), (4, 9, .int .i64 (wrap64 (a1))), (5, 10, .int .i64 ji5), (6, 11, m6_), (7, 12, .string (rdOf ByteArray.empty y375 (ji5))), (8, 13, .slice A0 l0.length c0), (9, 14, .string t379), (10, 15, .string ((rdOf ByteArray.empty y375 (ji5)) ++ t379)), (11, 16, .bool t380), (12, 17, .bool t380), (13, 4, .bool t380)] ∧ (Below w.heap.size w w') ∧ (b 2 = true → Kd.R Kd.string 9 w' w.heap.size (fun _ => True) v376 y375) ∧ (b 2 = true → ∃ c_, (v376 : Value) = .slice (some adz_v376) y375.length c_) ∧ (b 6 = true → (m6_ : Value) = .pointer (some (adz_v376.add ((ji5)).toNat)))) HT_.out HW_.out (by kernel_rfl) (by kernel_rfl) ?_ ?_ ?_
     ·exact ⟨.bool false, ⟨0, 0, none⟩, .bool false, by simp only [putSel, Bool.false_eq_true, if_false], HB.out, fun h_ => absurd h_ (by decide), fun h_ => absurd h_ (by decide), fun h_ => absurd h_ (by decide)⟩
     ·skip
      clear HB
      refine steps_cons ?_ ?_
      ·rintro b a w' ⟨v376, adz_v376, m6_, ha, Q_HB, Q_HO377, Q_HA_HO377, Q_X6_⟩ hb_ hon hoff
       refine ⟨_, rfl, fun K hK => ?_⟩
       replace ha := Aside0.mk ha
       have HB := Aside0.mk Q_HB
       refine goes_ Tryz.func8 (by kernel_rfl) rfl #[] (by rfl) rfl rfl (by first | (simp only [List.map_toArray, List.map_cons, List.map_nil, Act.eval, Array.getD_eq_getD_getElem?, Option.getD_some]; done) | (simp only [List.map_toArray, List.map_cons, List.map_nil, Act.eval, Array.getD_eq_getD_getElem?, Option.getD_some]; rfl)) ?_
       with_reducible refine (lockagelaw06_awake.calls k  true _ ?side1 A3.out).mono ?_
       (case side1 => exact glob_below HG_.out (by repeat (first | (with_reducible first | exact HB.out | apply below_alloc | apply pw_below_drewN | apply below_drew1) | exact HB.out)))
       rintro e w12 ⟨rfl, hb⟩
       refine ⟨_, rfl, ?_⟩
       have n0_ := Aside0.mk (below_step (by repeat (first | (with_reducible first | exact HB.out | apply below_alloc | apply pw_below_drewN | apply below_drew1) | exact HB.out)) hb)
       clear HB
       have HB := n0_
       clear n0_
       (try clear hb)
       (try clear hb2)
       (try clear hk)
       (try clear hi)
       refine hK.out _ _ ⟨v376, adz_v376, m6_, (by rw [ha.out]; exact putSel_upk 0 hb_ rfl rfl rfl), (by repeat (first | (with_reducible first | exact HB.out | apply below_alloc | apply pw_below_drewN | apply below_drew1) | exact HB.out)), fun h0_ => absurd ((hoff 2 (by kernel_rfl)).symm.trans h0_) (by decide), fun h0_ => absurd ((hoff 2 (by kernel_rfl)).symm.trans h0_) (by decide), fun h0_ => absurd ((hoff 6 (by kernel_rfl)).symm.trans h0_) (by decide)⟩
      refine steps_cons ?_ ?_
      ·rintro b a w' ⟨v376, adz_v376, m6_, ha, Q_HB, Q_HO377, Q_HA_HO377, Q_X6_⟩ hb_ hon hoff
       refine ⟨_, rfl, fun K hK => ?_⟩
       have e5 : a.tmps[5]? = some (.bool true) := by rw [ha]; exact putSel_on (e := (0, 5, .bool true)) 0 rfl rfl (hon 0 (by kernel_rfl)) rfl
       replace ha := Aside0.mk ha
       have HB := Aside0.mk Q_HB
       refine value_ (w1 := w') (v := .bool true) (by rfl) rfl ?_ ?_
       ·go_simp
        (try simp only [i64_w])
        try rfl
       refine hK.out _ _ ⟨v376, adz_v376, m6_, (by rw [ha.out]; exact putSel_upk 1 hb_ rfl rfl rfl), Q_HB, fun h0_ => absurd ((hoff 2 (by kernel_rfl)).symm.trans h0_) (by decide), fun h0_ => absurd ((hoff 2 (by kernel_rfl)).symm.trans h0_) (by decide), fun h0_ => absurd ((hoff 6 (by kernel_rfl)).symm.trans h0_) (by decide)⟩
      refine steps_cons ?_ ?_
      ·rintro b a w' ⟨v376, adz_v376, m6_, ha, Q_HB, Q_HO377, Q_HA_HO377, Q_X6_⟩ hb_ hon hoff
       refine ⟨_, rfl, fun K hK => ?_⟩
       have e6 : a.tmps[6]? = some (.bool true) := by rw [ha]; exact putSel_on (e := (1, 6, .bool true)) 1 rfl rfl (hon 1 (by kernel_rfl)) rfl
       replace ha := Aside0.mk ha
       have HB := Aside0.mk Q_HB
       refine Kd.R_lit_step Kd.string _ 9 ?hg (N := 7) ?hd (xs := ([(⟨#[]⟩ : ByteArray), (⟨#[71, 69, 84, 32, 47, 32, 72, 84, 84, 80, 47, 49, 46, 49, 13, 10]⟩ : ByteArray), (⟨#[72, 84, 84, 80, 47, 49, 46, 49, 32, 50, 48, 48, 32, 79, 75, 13, 10]⟩ : ByteArray), (⟨#[71, 69, 84, 32]⟩ : ByteArray)] : List ByteArray)) (inner := [.string (⟨#[]⟩ : ByteArray), .string (⟨#[71, 69, 84, 32, 47, 32, 72, 84, 84, 80, 47, 49, 46, 49, 13, 10]⟩ : ByteArray), .string (⟨#[72, 84, 84, 80, 47, 49, 46, 49, 32, 50, 48, 48, 32, 79, 75, 13, 10]⟩ : ByteArray), .string (⟨#[71, 69, 84, 32]⟩ : ByteArray)]) (ok := fun _ => True) (okp := fun _ => True) ?hr ?hp (fun _ hk => hk) trivial (Below.refl _ _) (Nat.le_refl _) (by simp) ?_; (case hd => rfl); (case hg => first | rfl | exact wanted_on rfl rfl rfl (e6.trans (by first | rfl | (simp [*]; done)))); (case hr => first | (go_simp; done) | (go_simp; rfl)); (case hp => exact (Reps.one (show Kd.M Kd.string _ _ _ (⟨#[]⟩ : ByteArray) [.string (⟨#[]⟩ : ByteArray)] from rfl) (Reps.one (show Kd.M Kd.string _ _ _ (⟨#[71, 69, 84, 32, 47, 32, 72, 84, 84, 80, 47, 49, 46, 49, 13, 10]⟩ : ByteArray) [.string (⟨#[71, 69, 84, 32, 47, 32, 72, 84, 84, 80, 47, 49, 46, 49, 13, 10]⟩ : ByteArray)] from rfl) (Reps.one (show Kd.M Kd.string _ _ _ (⟨#[72, 84, 84, 80, 47, 49, 46, 49, 32, 50, 48, 48, 32, 79, 75, 13, 10]⟩ : ByteArray) [.string (⟨#[72, 84, 84, 80, 47, 49, 46, 49, 32, 50, 48, 48, 32, 79, 75, 13, 10]⟩ : ByteArray)] from rfl) (Reps.one (show Kd.M Kd.string _ _ _ (⟨#[71, 69, 84, 32]⟩ : ByteArray) [.string (⟨#[71, 69, 84, 32]⟩ : ByteArray)] from rfl) (Reps.none _ _))))))
       intro v376 w14 ho15 hb hg_ hnew_
       clear hg_ hnew_
       (first | rw [← Ny375.out] at ho15 | (simp only [Int.reduceToNat] at ho15; rw [← Ny375.out] at ho15))
       have n0_ := Aside0.mk (Kd.R_lower ho15 (below_size (by repeat (first | (with_reducible first | exact HB.out | apply below_alloc | apply pw_below_drewN | apply below_drew1) | exact HB.out))))
       have n1_ := Aside0.mk (below_step (by repeat (first | (with_reducible first | exact HB.out | apply below_alloc | apply pw_below_drewN | apply below_drew1) | exact HB.out)) hb)
       clear HB
       have HO377 := n0_
       have HB := n1_
       clear n0_ n1_
       clear hb ho15
       obtain ⟨Ao16, co16, eo16⟩ := Kd.R_slice HO377.out
       subst eo16
       obtain ⟨ado16, fo16, _⟩ := Kd.at_string (Kd.R_reads' HO377.out).2.2 0 (by decide) (by rw [Ny375.out]; simp)
       cases fo16
       refine hK.out _ _ ⟨.slice (some ado16) y375.length co16, ado16, m6_, (by rw [ha.out]; exact putSel_upk 2 hb_ rfl rfl rfl), (by repeat (first | (with_reducible first | exact HB.out | apply below_alloc | apply pw_below_drewN | apply below_drew1) | exact HB.out)), fun _ => (by (with_reducible repeat (first | apply Kd.R_alloc | apply Kd.R_drewN | apply Kd.R_drew)); exact HO377.out), fun _ => ⟨_, rfl⟩, fun h0_ => absurd ((hoff 6 (by kernel_rfl)).symm.trans h0_) (by decide)⟩
      refine steps_cons ?_ ?_
      ·rintro b a w' ⟨v376, adz_v376, m6_, ha, Q_HB, Q_HO377, Q_HA_HO377, Q_X6_⟩ hb_ hon hoff
       refine ⟨_, rfl, fun K hK => ?_⟩
       have e1 : a.tmps[1]? = some (.int .u8 a1) := by rw [ha]; exact (putSel_off rfl).trans rfl
       have e6 : a.tmps[6]? = some (.bool true) := by rw [ha]; exact putSel_on (e := (1, 6, .bool true)) 1 rfl rfl (hon 1 (by kernel_rfl)) rfl
       replace ha := Aside0.mk ha
       have HB := Aside0.mk Q_HB
       refine value_ (w1 := w') (v := .int .u8 a1) (wanted_on rfl rfl rfl (e6.trans (by first | rfl | (simp [*]; done)))) rfl ?_ ?_
       ·go_simp
        (try simp only [i64_w])
        try rfl
       refine hK.out _ _ ⟨v376, adz_v376, m6_, (by rw [ha.out]; exact putSel_upk 3 hb_ rfl rfl rfl), Q_HB, Q_HO377, Q_HA_HO377, fun h0_ => absurd ((hoff 6 (by kernel_rfl)).symm.trans h0_) (by decide)⟩
      refine steps_cons ?_ ?_
      ·rintro b a w' ⟨v376, adz_v376, m6_, ha, Q_HB, Q_HO377, Q_HA_HO377, Q_X6_⟩ hb_ hon hoff
       refine ⟨_, rfl, fun K hK => ?_⟩
       have e8 : a.tmps[8]? = some (.int .u8 a1) := by rw [ha]; exact putSel_on (e := (3, 8, .int .u8 a1)) 3 rfl rfl (hon 3 (by kernel_rfl)) rfl
       have e6 : a.tmps[6]? = some (.bool true) := by rw [ha]; exact putSel_on (e := (1, 6, .bool true)) 1 rfl rfl (hon 1 (by kernel_rfl)) rfl
       replace ha := Aside0.mk ha
       have HB := Aside0.mk Q_HB
       refine value_ (w1 := w') (v := .int .i64 (wrap64 (a1))) (wanted_on rfl rfl rfl (e6.trans (by first | rfl | (simp [*]; done)))) rfl ?_ ?_
       ·go_simp
        (try simp only [i64_w])
        try rfl
       refine hK.out _ _ ⟨v376, adz_v376, m6_, (by rw [ha.out]; exact putSel_upk 4 hb_ rfl rfl rfl), Q_HB, Q_HO377, Q_HA_HO377, fun h0_ => absurd ((hoff 6 (by kernel_rfl)).symm.trans h0_) (by decide)⟩
      refine steps_cons ?_ ?_
      ·rintro b a w' ⟨v376, adz_v376, m6_, ha, Q_HB, Q_HO377, Q_HA_HO377, Q_X6_⟩ hb_ hon hoff
       refine ⟨_, rfl, fun K hK => ?_⟩
       have e9 : a.tmps[9]? = some (.int .i64 (wrap64 (a1))) := by rw [ha]; exact putSel_on (e := (4, 9, .int .i64 (wrap64 (a1)))) 4 rfl rfl (hon 4 (by kernel_rfl)) rfl
       have e6 : a.tmps[6]? = some (.bool true) := by rw [ha]; exact putSel_on (e := (1, 6, .bool true)) 1 rfl rfl (hon 1 (by kernel_rfl)) rfl
       replace ha := Aside0.mk ha
       have HB := Aside0.mk Q_HB
       refine value_ (w1 := w') (v := .int .i64 ji5) (wanted_on rfl rfl rfl (e6.trans (by first | rfl | (simp [*]; done)))) rfl ?_ ?_
       ·go_simp
        (try simp only [i64_w])
        (try exact hji5)
        try rfl
       refine hK.out _ _ ⟨v376, adz_v376, m6_, (by rw [ha.out]; exact putSel_upk 5 hb_ rfl rfl rfl), Q_HB, Q_HO377, Q_HA_HO377, fun h0_ => absurd ((hoff 6 (by kernel_rfl)).symm.trans h0_) (by decide)⟩
      refine steps_cons ?_ ?_
      ·rintro b a w' ⟨v376, adz_v376, m6_, ha, Q_HB, Q_HO377, Q_HA_HO377, Q_X6_⟩ hb_ hon hoff
       refine ⟨_, rfl, fun K hK => ?_⟩
       have e7 : a.tmps[7]? = some (v376) := by rw [ha]; exact putSel_on (e := (2, 7, v376)) 2 rfl rfl (hon 2 (by kernel_rfl)) rfl
       have e10 : a.tmps[10]? = some (.int .i64 ji5) := by rw [ha]; exact putSel_on (e := (5, 10, .int .i64 ji5)) 5 rfl rfl (hon 5 (by kernel_rfl)) rfl
       have e6 : a.tmps[6]? = some (.bool true) := by rw [ha]; exact putSel_on (e := (1, 6, .bool true)) 1 rfl rfl (hon 1 (by kernel_rfl)) rfl
       replace ha := Aside0.mk ha
       have HB := Aside0.mk Q_HB
       have HO377 := Aside0.mk (Q_HO377 (hon 2 (by kernel_rfl)))
       have HA_HO377 := Aside0.mk (Q_HA_HO377 (hon 2 (by kernel_rfl)))
       obtain ⟨c_, hv_⟩ := HA_HO377.out
       rw [hv_] at e7
       refine value_ (w1 := w') (v := .pointer (some (adz_v376.add ((ji5)).toNat))) (wanted_on rfl rfl rfl (e6.trans (by first | rfl | (simp [*]; done)))) rfl ?_ ?_
       ·go_simp
        (try simp only [i64_w])
        try rfl
       refine hK.out _ _ ⟨v376, adz_v376, (.pointer (some (adz_v376.add ((ji5)).toNat))), (by rw [ha.out]; exact putSel_upk 6 hb_ rfl rfl rfl), Q_HB, Q_HO377, Q_HA_HO377, fun _ => rfl⟩
      refine steps_cons ?_ ?_
      ·rintro b a w' ⟨v376, adz_v376, m6_, ha, Q_HB, Q_HO377, Q_HA_HO377, Q_X6_⟩ hb_ hon hoff
       refine ⟨_, rfl, fun K hK => ?_⟩
       have e11 : a.tmps[11]? = some (m6_) := by rw [ha]; exact putSel_on (e := (6, 11, m6_)) 6 rfl rfl (hon 6 (by kernel_rfl)) rfl
       rw [Q_X6_ (hon 6 (by kernel_rfl))] at e11
       have e6 : a.tmps[6]? = some (.bool true) := by rw [ha]; exact putSel_on (e := (1, 6, .bool true)) 1 rfl rfl (hon 1 (by kernel_rfl)) rfl
       replace ha := Aside0.mk ha
       have HB := Aside0.mk Q_HB
       have HO377 := Aside0.mk (Q_HO377 (hon 2 (by kernel_rfl)))
       have HA_HO377 := Aside0.mk (Q_HA_HO377 (hon 2 (by kernel_rfl)))
       obtain ⟨c_, hv_⟩ := HA_HO377.out
       have hF_ := HO377.out
       rw [hv_] at hF_
       obtain ⟨ad_, ea_, hx_⟩ := Kd.at_string (Kd.R_reads' hF_).2.2 (ji5) (of_eq_true pi378) (of_eq_true qi378)
       cases ea_
       refine value_ (w1 := w') (v := .string (rdOf ByteArray.empty y375 (ji5))) (wanted_on rfl rfl rfl (e6.trans (by first | rfl | (simp [*]; done)))) rfl ?_ ?_
       ·go_simp
        (try simp only [i64_w])
        try rfl
       refine hK.out _ _ ⟨v376, adz_v376, m6_, (by rw [ha.out]; exact putSel_upk 7 hb_ rfl rfl rfl), Q_HB, Q_HO377, Q_HA_HO377, Q_X6_⟩
      refine steps_cons ?_ ?_
      ·rintro b a w' ⟨v376, adz_v376, m6_, ha, Q_HB, Q_HO377, Q_HA_HO377, Q_X6_⟩ hb_ hon hoff
       refine ⟨_, rfl, fun K hK => ?_⟩
       have e0 : a.tmps[0]? = some (.slice A0 l0.length c0) := by rw [ha]; exact (putSel_off rfl).trans rfl
       have e6 : a.tmps[6]? = some (.bool true) := by rw [ha]; exact putSel_on (e := (1, 6, .bool true)) 1 rfl rfl (hon 1 (by kernel_rfl)) rfl
       replace ha := Aside0.mk ha
       have HB := Aside0.mk Q_HB
       refine value_ (w1 := w') (v := .slice A0 l0.length c0) (wanted_on rfl rfl rfl (e6.trans (by first | rfl | (simp [*]; done)))) rfl ?_ ?_
       ·go_simp
        (try simp only [i64_w])
        try rfl
       refine hK.out _ _ ⟨v376, adz_v376, m6_, (by rw [ha.out]; exact putSel_upk 8 hb_ rfl rfl rfl), Q_HB, Q_HO377, Q_HA_HO377, Q_X6_⟩
      refine steps_cons ?_ ?_
      ·rintro b a w' ⟨v376, adz_v376, m6_, ha, Q_HB, Q_HO377, Q_HA_HO377, Q_X6_⟩ hb_ hon hoff
       refine ⟨_, rfl, fun K hK => ?_⟩
       have e13 : a.tmps[13]? = some (.slice A0 l0.length c0) := by rw [ha]; exact putSel_on (e := (8, 13, .slice A0 l0.length c0)) 8 rfl rfl (hon 8 (by kernel_rfl)) rfl
       have e6 : a.tmps[6]? = some (.bool true) := by rw [ha]; exact putSel_on (e := (1, 6, .bool true)) 1 rfl rfl (hon 1 (by kernel_rfl)) rfl
       replace ha := Aside0.mk ha
       have HB := Aside0.mk Q_HB
       refine goes_ Tryz.func10 (by kernel_rfl) rfl #[.slice A0 l0.length c0] (by first | rfl | exact wanted_on rfl rfl rfl (e6.trans (by first | rfl | (simp [*]; done)))) rfl rfl (by first | (simp only [List.map_toArray, List.map_cons, List.map_nil, Act.eval, Array.getD_eq_getD_getElem?, Option.getD_some, e13, e6]; done) | (simp only [List.map_toArray, List.map_cons, List.map_nil, Act.eval, Array.getD_eq_getD_getElem?, Option.getD_some, e13, e6]; rfl)) ?_
       with_reducible refine (lockagelaw06_Pieces.calls k _ _ l0 t379 _ ?side1 ?side2 A8.out).mono ?_
       (case side1 => repeat (first | exact (Kd.C_below HR0.out HB.out) | (with_reducible refine Kd.C_alloc ?_ _) | (with_reducible refine Kd.C_drewN ?_ _) | (with_reducible refine Kd.C_drew ?_)))
       (case side2 => exact HC0.out)
       rintro e w14 ⟨rfl, hb⟩
       refine ⟨_, rfl, ?_⟩
       have n0_ := Aside0.mk (below_step (by repeat (first | (with_reducible first | exact HB.out | apply below_alloc | apply pw_below_drewN | apply below_drew1) | exact HB.out)) hb)
       have z_HO377 := fun (h0_ : b 2 = true) => (show Kd.R Kd.string 9 w14 w.heap.size (fun _ => True) v376 y375 from by first | exact (Kd.R_below (by (with_reducible repeat (first | apply Kd.R_alloc | apply Kd.R_drewN | apply Kd.R_drew)); exact (Q_HO377 h0_)) hb) | exact Kd.R_mono (Kd.R_below (by (with_reducible repeat (first | apply Kd.R_alloc | apply Kd.R_drewN | apply Kd.R_drew)); exact (Q_HO377 h0_)) hb) (fun _ h_ => by first | trivial | exact h_ | exact h_.1))
       clear HB
       have HB := n0_
       clear n0_
       (try clear hb)
       (try clear hb2)
       (try clear hk)
       (try clear hi)
       refine hK.out _ _ ⟨v376, adz_v376, m6_, (by rw [ha.out]; exact putSel_upk 9 hb_ rfl rfl rfl), (by repeat (first | (with_reducible first | exact HB.out | apply below_alloc | apply pw_below_drewN | apply below_drew1) | exact HB.out)), z_HO377, Q_HA_HO377, Q_X6_⟩
      refine steps_cons ?_ ?_
      ·rintro b a w' ⟨v376, adz_v376, m6_, ha, Q_HB, Q_HO377, Q_HA_HO377, Q_X6_⟩ hb_ hon hoff
       refine ⟨_, rfl, fun K hK => ?_⟩
       have e12 : a.tmps[12]? = some (.string (rdOf ByteArray.empty y375 (ji5))) := by rw [ha]; exact putSel_on (e := (7, 12, .string (rdOf ByteArray.empty y375 (ji5)))) 7 rfl rfl (hon 7 (by kernel_rfl)) rfl
       have e14 : a.tmps[14]? = some (.string t379) := by rw [ha]; exact putSel_on (e := (9, 14, .string t379)) 9 rfl rfl (hon 9 (by kernel_rfl)) rfl
       have e6 : a.tmps[6]? = some (.bool true) := by rw [ha]; exact putSel_on (e := (1, 6, .bool true)) 1 rfl rfl (hon 1 (by kernel_rfl)) rfl
       replace ha := Aside0.mk ha
       have HB := Aside0.mk Q_HB
       have HO377 := Aside0.mk (Q_HO377 (hon 2 (by kernel_rfl)))
       have HA_HO377 := Aside0.mk (Q_HA_HO377 (hon 2 (by kernel_rfl)))
       refine value_ (w1 := w') (v := .string ((rdOf ByteArray.empty y375 (ji5)) ++ t379)) (wanted_on rfl rfl rfl (e6.trans (by first | rfl | (simp [*]; done)))) rfl ?_ ?_
       ·go_simp
        (try simp only [i64_w])
        try rfl
       refine hK.out _ _ ⟨v376, adz_v376, m6_, (by rw [ha.out]; exact putSel_upk 10 hb_ rfl rfl rfl), Q_HB, Q_HO377, Q_HA_HO377, Q_X6_⟩
      refine steps_cons ?_ ?_
      ·rintro b a w' ⟨v376, adz_v376, m6_, ha, Q_HB, Q_HO377, Q_HA_HO377, Q_X6_⟩ hb_ hon hoff
       refine ⟨_, rfl, fun K hK => ?_⟩
       have e15 : a.tmps[15]? = some (.string ((rdOf ByteArray.empty y375 (ji5)) ++ t379)) := by rw [ha]; exact putSel_on (e := (10, 15, .string ((rdOf ByteArray.empty y375 (ji5)) ++ t379))) 10 rfl rfl (hon 10 (by kernel_rfl)) rfl
       have e6 : a.tmps[6]? = some (.bool true) := by rw [ha]; exact putSel_on (e := (1, 6, .bool true)) 1 rfl rfl (hon 1 (by kernel_rfl)) rfl
       replace ha := Aside0.mk ha
       have HB := Aside0.mk Q_HB
       have HO377 := Aside0.mk (Q_HO377 (hon 2 (by kernel_rfl)))
       have HA_HO377 := Aside0.mk (Q_HA_HO377 (hon 2 (by kernel_rfl)))
       obtain ⟨co18, eo18⟩ := HA_HO377.out
       clear HA_HO377
       subst eo18
       refine goes_ Tryz.func9 (by kernel_rfl) rfl #[.string ((rdOf ByteArray.empty y375 (ji5)) ++ t379)] (by first | rfl | exact wanted_on rfl rfl rfl (e6.trans (by first | rfl | (simp [*]; done)))) rfl rfl (by first | (simp only [List.map_toArray, List.map_cons, List.map_nil, Act.eval, Array.getD_eq_getD_getElem?, Option.getD_some, e15, e6]; done) | (try simp only [List.map_toArray, List.map_cons, List.map_nil]); first | done | (simp only [hji5]; rfl) | rfl | (simp only [List.length_drop, List.length_take]; rfl)) ?_
       with_reducible refine (lockagelaw06_same.calls k ((rdOf ByteArray.empty y375 (ji5)) ++ t379) t380 _ ?side1 A10.out).mono ?_
       (case side1 => exact glob_below HG_.out (by repeat (first | (with_reducible first | exact HB.out | apply below_alloc | apply pw_below_drewN | apply below_drew1) | exact HB.out)))
       rintro e w19 ⟨rfl, hb⟩
       refine ⟨_, rfl, ?_⟩
       have n0_ := Aside0.mk (Kd.R_below (by (with_reducible repeat (first | apply Kd.R_alloc | apply Kd.R_drewN | apply Kd.R_drew)); exact HO377.out) hb)
       have n1_ := Aside0.mk (below_step (by repeat (first | (with_reducible first | exact HB.out | apply below_alloc | apply pw_below_drewN | apply below_drew1) | exact HB.out)) hb)
       clear HO377
       clear HB
       have HO377 := n0_
       have HB := n1_
       clear n0_ n1_
       (try clear hb)
       (try clear hb2)
       (try clear hk)
       (try clear hi)
       refine hK.out _ _ ⟨.slice (some adz_v376) y375.length co18, adz_v376, m6_, (by rw [ha.out]; exact putSel_upk 11 hb_ rfl rfl rfl), (by repeat (first | (with_reducible first | exact HB.out | apply below_alloc | apply pw_below_drewN | apply below_drew1) | exact HB.out)), fun _ => (by (with_reducible repeat (first | apply Kd.R_alloc | apply Kd.R_drewN | apply Kd.R_drew)); exact HO377.out), fun _ => ⟨_, rfl⟩, Q_X6_⟩
      refine steps_cons ?_ ?_
      ·rintro b a w' ⟨v376, adz_v376, m6_, ha, Q_HB, Q_HO377, Q_HA_HO377, Q_X6_⟩ hb_ hon hoff
       refine ⟨_, rfl, fun K hK => ?_⟩
       have e6 : a.tmps[6]? = some (.bool true) := by rw [ha]; exact putSel_on (e := (1, 6, .bool true)) 1 rfl rfl (hon 1 (by kernel_rfl)) rfl
       have e16 : a.tmps[16]? = some (.bool t380) := by rw [ha]; exact putSel_on (e := (11, 16, .bool t380)) 11 rfl rfl (hon 11 (by kernel_rfl)) rfl
       replace ha := Aside0.mk ha
       have HB := Aside0.mk Q_HB
       have HO377 := Aside0.mk (Q_HO377 (hon 2 (by kernel_rfl)))
       have HA_HO377 := Aside0.mk (Q_HA_HO377 (hon 2 (by kernel_rfl)))
       refine value_ (w1 := w') (v := .bool t380) (by rfl) rfl ?_ ?_
       ·go_simp
        (try simp only [i64_w])
        try rfl
       refine hK.out _ _ ⟨v376, adz_v376, m6_, (by rw [ha.out]; exact putSel_upk 12 hb_ rfl rfl rfl), Q_HB, Q_HO377, Q_HA_HO377, Q_X6_⟩
      refine steps_cons ?_ ?_
      ·rintro b a w' ⟨v376, adz_v376, m6_, ha, Q_HB, Q_HO377, Q_HA_HO377, Q_X6_⟩ hb_ hon hoff
       refine ⟨_, rfl, fun K hK => ?_⟩
       have e17 : a.tmps[17]? = some (.bool t380) := by rw [ha]; exact putSel_on (e := (12, 17, .bool t380)) 12 rfl rfl (hon 12 (by kernel_rfl)) rfl
       replace ha := Aside0.mk ha
       have HB := Aside0.mk Q_HB
       have HO377 := Aside0.mk (Q_HO377 (hon 2 (by kernel_rfl)))
       have HA_HO377 := Aside0.mk (Q_HA_HO377 (hon 2 (by kernel_rfl)))
       refine value_ (w1 := w') (v := .bool t380) (by rfl) rfl ?_ ?_
       ·go_simp
        (try simp only [i64_w])
        try rfl
       refine hK.out _ _ ⟨v376, adz_v376, m6_, (by rw [ha.out]; exact putSel_upk 13 hb_ rfl rfl rfl), Q_HB, Q_HO377, Q_HA_HO377, Q_X6_⟩
      exact steps_nil
     rintro b a w18 hall ⟨v376, adz_v376, m6_, ha, Q_HB, Q_HO377, Q_HA_HO377, Q_X6_⟩
     clear HB
     have hb0_ := hall 0 (by kernel_rfl)
     have hb1_ := hall 1 (by kernel_rfl)
     have hb2_ := hall 2 (by kernel_rfl)
     have hb3_ := hall 3 (by kernel_rfl)
     have hb4_ := hall 4 (by kernel_rfl)
     have hb5_ := hall 5 (by kernel_rfl)
     have hb6_ := hall 6 (by kernel_rfl)
     have hb7_ := hall 7 (by kernel_rfl)
     have hb8_ := hall 8 (by kernel_rfl)
     have hb9_ := hall 9 (by kernel_rfl)
     have hb10_ := hall 10 (by kernel_rfl)
     have hb11_ := hall 11 (by kernel_rfl)
     have hb12_ := hall 12 (by kernel_rfl)
     have hb13_ := hall 13 (by kernel_rfl)
     subst ha
     obtain rfl := Q_X6_ hb6_
     simp only [putSel, hb0_, hb1_, hb2_, hb3_, hb4_, hb5_, hb6_, hb7_, hb8_, hb9_, hb10_, hb11_, hb12_, hb13_, if_true, Act.put, List.setIfInBounds_toArray, List.set_cons_zero, List.set_cons_succ]
     have HB := Aside0.mk Q_HB
     clear Q_HB
     have HO377 := Aside0.mk (Q_HO377 hb2_)
     clear Q_HO377
     have HA_HO377 := Aside0.mk (Q_HA_HO377 hb2_)
     clear Q_HA_HO377
     clear hall hb0_ hb1_ hb2_ hb3_ hb4_ hb5_ hb6_ hb7_ hb8_ hb9_ hb10_ hb11_ hb12_ hb13_
     obtain ⟨co19, eo19⟩ := HA_HO377.out
     clear HA_HO377
     subst eo19
     try go_wp2
     go_ret
     exact ⟨by first | rfl | (simp [errW_none, errW_some] <;> rfl) | (simp only [← hji5]; first | rfl | (simp [errW_none, errW_some] <;> rfl)) | (simp [*, errW_none, errW_some] <;> rfl), by repeat (first | (with_reducible first | exact HB.out | apply below_alloc | apply pw_below_drewN | apply below_drew1) | exact HB.out)⟩
    ·rw [if_neg c9] at H
     exact absurd H (by simp)
   ·rw [if_neg c7] at H
    exact absurd H (by simp)
  ·rw [if_neg c6] at H
   exact absurd H (by simp)
 ·replace c4 := Bool.eq_false_iff.mpr c4
  subst c4
  have H1 : (none) = some r := by rw [if_neg (show ¬ (false = true) by decide)] at H; exact H
  clear H
  have H := H1
  clear H1
  exact absurd H (by simp)

def lockagelaw06_HeadSmall.Pure : Prop := ∀ (l0 : List Int) (a1 : Int), l0.length ≤ maxLen → l0.length * 1 ≤ 140737488351232 → (∀ x ∈ l0, (Lit.int .u8 x).wf = true) → (Lit.int .u8 a1).wf = true → ∃ k, lockagelaw06_HeadSmall.f k l0 a1 = some true
end Go.Proofs.YtemhokkfefidlaaGreatDoor.P
