/- Printed by a program of the session out of the translation: plain Lean functions, each with the contract that the Go function computes it. -/
import Derived.Test.YtapeodbgobkjeaaGreatDoorHZM
import Derived.Test.YtapeodbgobkjeaaGreatDoorPx0
import Derived.Test.YtapeodbgobkjeaaGreatDoorPx28
import Derived.Test.YtapeodbgobkjeaaGreatDoorPxB
import Derived.Test.YtapeodbgobkjeaaGreatDoorHZC
import Derived.Test.YtapeodbgobkjeaaGreatDoorHZB
namespace Go.Proofs.YtapeodbgobkjeaaGreatDoor.P
open Go.RowKit Go.Proofs.YtapeodbgobkjeaaGreatDoorW.PrintWords Go.Proofs.YtapeodbgobkjeaaGreatDoorW.PrintLast Go.Proofs.YtapeodbgobkjeaaGreatDoorW.PrintMore
attribute [local go_sem] max2_int min2_int max_two min_two max_three min_three max_four min_four   -- for this text's walks alone
set_option linter.unusedVariables false
set_option linter.unusedSimpArgs false

def lockageref09_Print.f (k : Nat) (a0_0 : ByteArray) (a0_1 : ByteArray) (a0_2 : Int) (a0_3 : ByteArray) (a0_4 : Int) (l0_5 : List (S40)) (a0_6 : ByteArray) (a1 : Bool) : Option (ByteArray × Int) := if (a0_6.size : Int) > 4000 then (some ((⟨#[]⟩ : ByteArray), 2)) else ((lockageref05_Drop.f k l0_5 (([(⟨#[99, 111, 110, 116, 101, 110, 116, 45, 108, 101, 110, 103, 116, 104]⟩ : ByteArray), (⟨#[116, 114, 97, 110, 115, 102, 101, 114, 45, 101, 110, 99, 111, 100, 105, 110, 103]⟩ : ByteArray)] : List ByteArray))).bind fun t1090 => ((lockageref03_Text.f k (a0_6.size : Int) 10).bind fun t1093 => (if t1090.length < 4398046511104 then ((lockageref06_Print.f k a0_0 a0_1 a0_2 a0_3 a0_4 (t1090 ++ [(⟨(⟨#[67, 111, 110, 116, 101, 110, 116, 45, 76, 101, 110, 103, 116, 104]⟩ : ByteArray), t1093⟩ : S40)]) a1).bind fun bt1097 => (if bt1097.2 = 0 then (if bt1097.1.size + a0_6.size ≤ 9223372036854775807 then (some (bt1097.1 ++ a0_6, 0)) else (none)) else (some ((⟨#[]⟩ : ByteArray), bt1097.2)))) else (none))))
theorem lockageref09_Print.mono : ∀ a0 a1 a2 a3 a4 a5 a6 a7 k, LeO (lockageref09_Print.f k a0 a1 a2 a3 a4 a5 a6 a7) (lockageref09_Print.f (k + 1) a0 a1 a2 a3 a4 a5 a6 a7) := by
 intro a0 a1 a2 a3 a4 a5 a6 a7 k
 unfold lockageref09_Print.f; have m0 := @lockageref03_Text.mono; have m1 := @lockageref05_Drop.mono; have m2 := @lockageref06_Print.mono; exact zM
def lockageref09_Print.T4 : Bool × List (List Nat × List Nat) := (true, [([], []), ([0], [0]), ([], []), ([1, 2], [1, 2]), ([], []), ([4], [4]), ([5], [5]), ([6, 3], [6]), ([7], [7]), ([8], [8]), ([3, 9, 7], [3, 9]), ([0, 1, 2, 3, 4, 5, 6, 7, 8, 9, 10], []), ([11, 10, 10, 0, 1, 2, 3, 4, 5, 6, 7, 8, 9, 10], [10, 11])])
def lockageref09_Print.B4 : List Nat := [0, 1, 0, 7, 0, 16, 48, 127, 255, 511, 1023, 2047, 4095]
theorem lockageref09_Print.tab4 : rtab .any (opsOf Tryz.f18 4) = lockageref09_Print.T4 := by kernel_rfl
theorem lockageref09_Print.bits4 : waitsOk lockageref09_Print.T4.2 lockageref09_Print.B4 = true := by kernel_rfl
set_option maxHeartbeats 8000000 in
set_option maxRecDepth 100000 in
theorem lockageref09_Print.calls (k : Nat) (a0_0 : ByteArray) (a0_1 : ByteArray) (a0_2 : Int) (a0_3 : ByteArray) (a0_4 : Int) (A0_5 : Option Addr) (c0_5 : Nat) (l0_5 : List (S40)) (a0_6 : ByteArray) (a1 : Bool) (r1 : ByteArray) (r2 : Int) (w : World) (hr0_5 : Kd.C k40 w A0_5 l0_5.length l0_5) (hc0_5 : l0_5.length ≤ c0_5) (h : lockageref09_Print.f k a0_0 a0_1 a0_2 a0_3 a0_4 l0_5 a0_6 a1 = some (r1, r2)) :
  Calls Tryz.prog 18 #[.agg #[.string a0_0, .string a0_1, .int .i64 a0_2, .string a0_3, .int .i64 a0_4, .slice A0_5 l0_5.length c0_5, .string a0_6], .bool a1] w fun e w' => e = .returned (.tuple #[.string r1, .int .i64 r2]) ∧ Below w.heap.size w w' := by
 have hu49 := Tryz.underlying49; have hu29 := Tryz.underlying29; have hu40 := Tryz.underlying40; have HR0_5 := aM hr0_5; have HC0_5 := aM hc0_5; clear hr0_5 hc0_5; have HB := aM (Below.refl w.heap.size w); have H := h; unfold lockageref09_Print.f at H; clear h; by_cases c3 : (a0_6.size : Int) > 4000
 ·rw [if_pos c3] at H; have c3b0 := decide_eq_true c3; have c3b1 : decide (4000 < a0_6.size) = true := decide_eq_true (by omega); clear c3; simp only [Option.some.injEq, Prod.mk.injEq] at H; obtain ⟨rfl, rfl⟩ := H
  go_enter Tryz.func18, Tryz.ntmps18
  go_wp2_with (first | ((with_reducible refine gate_dst (N := 2) rfl ?_); refine box_event ?hg (N := 2) ?hd (cs := #[.string a0_0, .string a0_1, .int .i64 a0_2, .string a0_3, .int .i64 a0_4, .slice A0_5 l0_5.length c0_5, .string a0_6]) (t := 49) ?hr ?_; (case hd => rfl); (case hg => rfl); (case hr => exact zG); intro gb1085 hg w4 hbox hb; have BK1085 := aM hbox; have GW1085 := aM (by rw [hg]; exact (below_size zB) : w.heap.size ≤ gb1085); replace HB := aM (below_step zB hb); have GE1085 := GW1085; clear hb hbox hg; obtain ⟨_, _, _, _, _, _, _, _, _, _, _, _, _, _⟩ := cz7 BK1085.out))
  go_ret2
  exact ⟨zE, zB⟩
 ·rw [if_neg c3] at H; have c3b0 := decide_eq_false c3; have c3b1 : decide (4000 < a0_6.size) = false := decide_eq_false (by omega); clear c3; obtain ⟨y1087, hy1087⟩ : ∃ y_ : List ByteArray, y_ = (([(⟨#[99, 111, 110, 116, 101, 110, 116, 45, 108, 101, 110, 103, 116, 104]⟩ : ByteArray), (⟨#[116, 114, 97, 110, 115, 102, 101, 114, 45, 101, 110, 99, 111, 100, 105, 110, 103]⟩ : ByteArray)] : List ByteArray)) := ⟨_, rfl⟩; rw [← hy1087] at H; have Ny1087 := aM hy1087; clear hy1087; obtain ⟨t1090, A6, H⟩ := zc H; (try dsimp only at H); obtain ⟨t1093, A7, H⟩ := zc H; (try dsimp only at H); by_cases c8 : t1090.length < 4398046511104
  ·rw [if_pos c8] at H; have LMc8 := aM c8; clear c8; obtain ⟨y1094, hy1094⟩ : ∃ y_ : List (S40), y_ = (t1090 ++ [(⟨(⟨#[67, 111, 110, 116, 101, 110, 116, 45, 76, 101, 110, 103, 116, 104]⟩ : ByteArray), t1093⟩ : S40)]) := ⟨_, rfl⟩; (replace H : ((lockageref06_Print.f k a0_0 a0_1 a0_2 a0_3 a0_4 y1094 a1).bind fun bt1097 => (if bt1097.2 = 0 then (if bt1097.1.size + a0_6.size ≤ 9223372036854775807 then (some (bt1097.1 ++ a0_6, 0)) else (none)) else (some ((⟨#[]⟩ : ByteArray), bt1097.2)))) = some (r1, r2) := zN hy1094 H); have Ny1094 := aM hy1094; clear hy1094; replace H := Option.bind_eq_some_iff.mp H; obtain ⟨⟨t1097, t1098⟩, A90, H⟩ := H; replace H : (if t1098 = 0 then (if t1097.size + a0_6.size ≤ 9223372036854775807 then (some (t1097 ++ a0_6, 0)) else (none)) else (some ((⟨#[]⟩ : ByteArray), t1098))) = some (r1, r2) := H; have A9 := aM A90; clear A90; by_cases c10 : t1098 = 0
   ·rw [if_pos c10] at H; obtain ⟨c10b0, c10b1⟩ := zd c10; clear c10; by_cases c11 : t1097.size + a0_6.size ≤ 9223372036854775807
    ·rw [if_pos c11] at H; have c11b0 := eq_true c11; have c11b1 := decide_eq_true c11
     try have c11b2 : (9223372036854775807 < t1097.size + a0_6.size) = False := eq_false (Nat.not_lt.2 c11)
     simp only [Option.some.injEq, Prod.mk.injEq] at H; obtain ⟨rfl, rfl⟩ := H
     go_enter Tryz.func18, Tryz.ntmps18
     try go_wp2_with (first | ((with_reducible refine gate_dst (N := 2) rfl ?_); refine box_event ?hg (N := 2) ?hd (cs := #[.string a0_0, .string a0_1, .int .i64 a0_2, .string a0_3, .int .i64 a0_4, .slice A0_5 l0_5.length c0_5, .string a0_6]) (t := 49) ?hr ?_; (case hd => rfl); (case hg => rfl); (case hr => exact zG); intro gb1085 hg w12 hbox hb; have BK1085 := aM hbox; have GW1085 := aM (by rw [hg]; exact (below_size zB) : w.heap.size ≤ gb1085); replace HB := aM (below_step zB hb); have GE1085 := GW1085; clear hb hbox hg; obtain ⟨_, _, _, _, _, _, _, _, _, _, _, _, _, _⟩ := cz7 BK1085.out) | ((with_reducible refine gate_dst (N := 6) rfl ?_); refine box_event ?hg (N := 6) ?hd (cs := #[.string (⟨#[]⟩ : ByteArray), .string (⟨#[]⟩ : ByteArray), .int .i64 0, .string (⟨#[]⟩ : ByteArray), .int .i64 0, .slice none 0 0]) (t := 29) ?hr ?_; (case hd => rfl); (case hg => rfl); (case hr => exact zG); intro gb1086 hg w14 hbox hb; have BK1086 := aM hbox; have GW1086 := aM (by rw [hg]; exact (below_size zB) : w.heap.size ≤ gb1086); replace HB := aM (below_step zB hb); have GE1086 := GW1086; have NB1085_1086 := aM (by rw [hg]; exact Nat.ne_of_lt (blk_lt (zK BK1085.out)) : gb1085 ≠ gb1086); replace BK1085 := aM (zX BK1085.out hb); have NB1086_1085 := aM NB1085_1086.out.symm; clear hb hbox hg; have hnb15 := NB1086_1085.out; have hnc15 := NB1085_1086.out; obtain ⟨_, _, _, _, _, _, _, _, _, _, _, _⟩ := cz6 BK1086.out))
     have n0_ : Aside0 (((((((w14.setCell ⟨gb1086, 0, none⟩ (.string a0_0)).setCell ⟨gb1086, 1, none⟩ (.string a0_1)).setCell ⟨gb1086, 2, none⟩ (.int .i64 a0_2)).setCell ⟨gb1086, 3, none⟩ (.string a0_3)).setCell ⟨gb1086, 4, none⟩ (.int .i64 a0_4)).setCell ⟨gb1086, 5, none⟩ (.slice A0_5 l0_5.length c0_5)).heap[gb1085]? = some (.cells #[.string a0_0, .string a0_1, .int .i64 a0_2, .string a0_3, .int .i64 a0_4, .slice A0_5 l0_5.length c0_5, .string a0_6] 49 (0, 0))) := ⟨zF BK1085.out⟩; have n1_ : Aside0 (((((((w14.setCell ⟨gb1086, 0, none⟩ (.string a0_0)).setCell ⟨gb1086, 1, none⟩ (.string a0_1)).setCell ⟨gb1086, 2, none⟩ (.int .i64 a0_2)).setCell ⟨gb1086, 3, none⟩ (.string a0_3)).setCell ⟨gb1086, 4, none⟩ (.int .i64 a0_4)).setCell ⟨gb1086, 5, none⟩ (.slice A0_5 l0_5.length c0_5)).heap[gb1086]? = some (.cells #[.string a0_0, .string a0_1, .int .i64 a0_2, .string a0_3, .int .i64 a0_4, .slice A0_5 l0_5.length c0_5] 29 (0, 0))) := ⟨zQ6 BK1086.out⟩; have n2_ : Aside0 (Below w.heap.size w ((((((w14.setCell ⟨gb1086, 0, none⟩ (.string a0_0)).setCell ⟨gb1086, 1, none⟩ (.string a0_1)).setCell ⟨gb1086, 2, none⟩ (.int .i64 a0_2)).setCell ⟨gb1086, 3, none⟩ (.string a0_3)).setCell ⟨gb1086, 4, none⟩ (.int .i64 a0_4)).setCell ⟨gb1086, 5, none⟩ (.slice A0_5 l0_5.length c0_5))) := ⟨zB⟩
     (try clear BK1085)
     (try clear BK1086)
     (try clear HB)
     generalize ((((((w14.setCell ⟨gb1086, 0, none⟩ (.string a0_0)).setCell ⟨gb1086, 1, none⟩ (.string a0_1)).setCell ⟨gb1086, 2, none⟩ (.int .i64 a0_2)).setCell ⟨gb1086, 3, none⟩ (.string a0_3)).setCell ⟨gb1086, 4, none⟩ (.int .i64 a0_4)).setCell ⟨gb1086, 5, none⟩ (.slice A0_5 l0_5.length c0_5)) = w17 at n0_ n1_ n2_ ⊢; have BK1085 := n0_; have BK1086 := n1_; have HB := n2_; clear n0_ n1_ n2_; replace BK1085 := aM (bD BK1085.out); replace BK1086 := aM (bD BK1086.out); replace HB := aM (lD HB.out)
     refine start_ (n := 13) (S := fun w' => w'.cell? ⟨gb1086, 0, none⟩ = some (.string a0_0) ∧ w'.cell? ⟨gb1086, 1, none⟩ = some (.string a0_1) ∧ w'.cell? ⟨gb1086, 2, none⟩ = some (.int .i64 a0_2) ∧ w'.cell? ⟨gb1086, 3, none⟩ = some (.string a0_3) ∧ w'.cell? ⟨gb1086, 4, none⟩ = some (.int .i64 a0_4) ∧ w'.cell? ⟨gb1086, 5, none⟩ = some (.slice A0_5 l0_5.length c0_5) ∧ w'.cell? ⟨gb1085, 0, none⟩ = some (.string a0_0) ∧ w'.cell? ⟨gb1085, 1, none⟩ = some (.string a0_1) ∧ w'.cell? ⟨gb1085, 2, none⟩ = some (.int .i64 a0_2) ∧ w'.cell? ⟨gb1085, 3, none⟩ = some (.string a0_3) ∧ w'.cell? ⟨gb1085, 4, none⟩ = some (.int .i64 a0_4) ∧ w'.cell? ⟨gb1085, 5, none⟩ = some (.slice A0_5 l0_5.length c0_5) ∧ w'.cell? ⟨gb1085, 6, none⟩ = some (.string a0_6)) (ds := [12]) (dB 13 0) (by kernel_rfl) rfl rfl ⟨(blk_cell BK1086.out 0).trans rfl, (blk_cell BK1086.out 1).trans rfl, (blk_cell BK1086.out 2).trans rfl, (blk_cell BK1086.out 3).trans rfl, (blk_cell BK1086.out 4).trans rfl, (blk_cell BK1086.out 5).trans rfl, (blk_cell BK1085.out 0).trans rfl, (blk_cell BK1085.out 1).trans rfl, (blk_cell BK1085.out 2).trans rfl, (blk_cell BK1085.out 3).trans rfl, (blk_cell BK1085.out 4).trans rfl, (blk_cell BK1085.out 5).trans rfl, (blk_cell BK1085.out 6).trans rfl⟩ (fun hHeld => ?_); refine with_tabW lockageref09_Print.tab4 lockageref09_Print.bits4 (fun HT_ HW_ => ?_)
     generalize w17.drew = w18 at BK1085 BK1086 HB hHeld ⊢
     refine pR 0 15 (dB 13 1) HT_.out ?_
     refine pR 4 19 (dB 13 17) HT_.out ?_
     refine tR 1 16 (dB 13 19) HT_.out HW_.out hHeld ?_
     refine tR 5 20 (dB 13 51) HT_.out HW_.out hHeld ?_
     refine pR 6 21 (dB 13 115) HT_.out ?_
     refine oR 2 17 (dB 13 119) HT_.out (fun K hK => ?_)
     refine Kd.R_lit_step Kd.string _ 9 ?hg (N := 17) ?hd (xs := ([(⟨#[99, 111, 110, 116, 101, 110, 116, 45, 108, 101, 110, 103, 116, 104]⟩ : ByteArray), (⟨#[116, 114, 97, 110, 115, 102, 101, 114, 45, 101, 110, 99, 111, 100, 105, 110, 103]⟩ : ByteArray)] : List ByteArray)) (inner := [.string (⟨#[99, 111, 110, 116, 101, 110, 116, 45, 108, 101, 110, 103, 116, 104]⟩ : ByteArray), .string (⟨#[116, 114, 97, 110, 115, 102, 101, 114, 45, 101, 110, 99, 111, 100, 105, 110, 103]⟩ : ByteArray)]) (ok := fun _ => True) (okp := fun _ => True) ?hr ?hp (fun _ hk => hk) trivial (Below.refl _ _) (Nat.le_refl _) (by simp) ?_; (case hd => rfl); (case hg => rfl); (case hr => exact zG); (case hp => exact (Reps.one (zY (⟨#[99, 111, 110, 116, 101, 110, 116, 45, 108, 101, 110, 103, 116, 104]⟩ : ByteArray)) (Reps.one (zY (⟨#[116, 114, 97, 110, 115, 102, 101, 114, 45, 101, 110, 99, 111, 100, 105, 110, 103]⟩ : ByteArray)) (Reps.none _ _))))
     intro v1088 w19 ho20 hb hg_ hnew_; clear hg_ hnew_
     (first | rw [← Ny1087.out] at ho20 | (simp only [Int.reduceToNat] at ho20; rw [← Ny1087.out] at ho20))
     have HO1089 := aM (Kd.R_lower ho20 (below_size zB)); replace BK1085 := aM (zX BK1085.out hb); replace BK1086 := aM (zX BK1086.out hb); replace HB := aM (below_step zB hb); clear hb ho20; obtain ⟨Ao21, co21, eo21⟩ := Kd.R_slice HO1089.out
     (first | subst eo21 | (injection eo21 with f1_ f2_ f3_; have f4_ := f1_.symm; have f5_ := f3_.symm; clear f1_ f2_ f3_; subst f4_; subst f5_))
     refine hK.out _ _ ⟨(blk_cell BK1086.out 0).trans rfl, (blk_cell BK1086.out 1).trans rfl, (blk_cell BK1086.out 2).trans rfl, (blk_cell BK1086.out 3).trans rfl, (blk_cell BK1086.out 4).trans rfl, (blk_cell BK1086.out 5).trans rfl, (blk_cell BK1085.out 0).trans rfl, (blk_cell BK1085.out 1).trans rfl, (blk_cell BK1085.out 2).trans rfl, (blk_cell BK1085.out 3).trans rfl, (blk_cell BK1085.out 4).trans rfl, (blk_cell BK1085.out 5).trans rfl, (blk_cell BK1085.out 6).trans rfl⟩ (fun hHeld => ?_)
     clear hK K
     refine norm_ (a' := ?_) ?_ ?_
     rotate_left
     ·show Act.put _ (some 17) _ = _
      exact zP
     refine oR 3 18 (dB 13 127) HT_.out (fun K hK => ?_)
     refine goes_ Tryz.func24 (by kernel_rfl) rfl #[.slice A0_5 l0_5.length c0_5, .slice Ao21 y1087.length co21] (by rfl) rfl rfl zL ?_
     with_reducible refine (lockageref05_Drop.calls k _ _ l0_5 _ _ y1087 t1090 _ ?side1 ?side2 ?side3 ?side4 A6.out).mono ?_
     (case side1 => exact zC (Kd.C_below HR0_5.out HB.out))
     (case side2 => exact HC0_5.out)
     (case side3 => exact zC ((Kd.R_reads' HO1089.out).2.2))
     (case side4 => exact (Kd.R_reads' HO1089.out).2.1)
     rintro e w22 ⟨v1091, rfl, ho0, hb⟩
     refine ⟨_, rfl, ?_⟩
     replace HO1089 := aM (Kd.R_below (zO HO1089.out) hb); have HO1092 := aM (Kd.R_lower ho0 (below_size zB)); replace BK1085 := aM (zX BK1085.out hb); replace BK1086 := aM (zX BK1086.out hb); replace HB := aM (below_step zB hb)
     (try clear hb)
     (try clear hb2)
     (try clear hk)
     (try clear hi)
     (try clear ho0)
     refine hK.out _ _ ⟨(blk_cell BK1086.out 0).trans rfl, (blk_cell BK1086.out 1).trans rfl, (blk_cell BK1086.out 2).trans rfl, (blk_cell BK1086.out 3).trans rfl, (blk_cell BK1086.out 4).trans rfl, (blk_cell BK1086.out 5).trans rfl, (blk_cell BK1085.out 0).trans rfl, (blk_cell BK1085.out 1).trans rfl, (blk_cell BK1085.out 2).trans rfl, (blk_cell BK1085.out 3).trans rfl, (blk_cell BK1085.out 4).trans rfl, (blk_cell BK1085.out 5).trans rfl, (blk_cell BK1085.out 6).trans rfl⟩ (fun hHeld => ?_)
     clear hK K
     refine norm_ (a' := ?_) ?_ ?_
     rotate_left
     ·show Act.put _ (some 18) _ = _
      exact zP
     refine oR 7 22 (dB 13 255) HT_.out (fun K hK => ?_)
     refine goes_ Tryz.func36 (by kernel_rfl) rfl #[.int .i64 (a0_6.size : Int), .int .i64 10] (by rfl) rfl rfl zL ?_
     with_reducible refine (lockageref03_Text.calls k (a0_6.size : Int) 10 t1093 _ A7.out).mono ?_
     rintro e w' ⟨rfl, ⟨nd, rfl⟩⟩
     refine ⟨_, rfl, ?_⟩
     refine hK.out _ _ ⟨(blk_cell BK1086.out 0).trans rfl, (blk_cell BK1086.out 1).trans rfl, (blk_cell BK1086.out 2).trans rfl, (blk_cell BK1086.out 3).trans rfl, (blk_cell BK1086.out 4).trans rfl, (blk_cell BK1086.out 5).trans rfl, (blk_cell BK1085.out 0).trans rfl, (blk_cell BK1085.out 1).trans rfl, (blk_cell BK1085.out 2).trans rfl, (blk_cell BK1085.out 3).trans rfl, (blk_cell BK1085.out 4).trans rfl, (blk_cell BK1085.out 5).trans rfl, (blk_cell BK1085.out 6).trans rfl⟩ (fun hHeld => ?_)
     clear hK K
     refine norm_ (a' := ?_) ?_ ?_
     rotate_left
     ·show Act.put _ (some 22) _ = _
      exact zP
     refine pR 8 23 (dB 13 511) HT_.out ?_
     refine oR 9 24 (dB 13 1023) HT_.out (fun K hK => ?_)
     refine value_ (w1 := ?_) (v := ?_) (by rfl) rfl ?_ ?_
     rotate_left 2
     ·go_simp
      constructor
      ·rfl
      ·rfl
     refine hK.out _ _ ⟨(blk_cell (bA BK1086.out _) 0).trans rfl, (blk_cell (bA BK1086.out _) 1).trans rfl, (blk_cell (bA BK1086.out _) 2).trans rfl, (blk_cell (bA BK1086.out _) 3).trans rfl, (blk_cell (bA BK1086.out _) 4).trans rfl, (blk_cell (bA BK1086.out _) 5).trans rfl, (blk_cell (bA BK1085.out _) 0).trans rfl, (blk_cell (bA BK1085.out _) 1).trans rfl, (blk_cell (bA BK1085.out _) 2).trans rfl, (blk_cell (bA BK1085.out _) 3).trans rfl, (blk_cell (bA BK1085.out _) 4).trans rfl, (blk_cell (bA BK1085.out _) 5).trans rfl, (blk_cell (bA BK1085.out _) 6).trans rfl⟩ (fun hHeld => ?_)
     clear hK K
     refine norm_ (a' := ?_) ?_ ?_
     rotate_left
     ·show Act.put _ (some 24) _ = _
      exact zP
     refine oR 10 25 (dB 13 2047) HT_.out (fun K hK => ?_)
     refine Kd.R_append_step k40 (w0 := w) w.heap.size (by rfl) (.tmp 18) (.tmp 24) 27 40 (.agg #[(.string ⟨#[]⟩), (.string ⟨#[]⟩)]) 32 rfl Tryz.underlying27 info40 rfl (by decide) (by omega) v1091 t1090 (⟨(⟨#[67, 111, 110, 116, 101, 110, 116, 45, 76, 101, 110, 103, 116, 104]⟩ : ByteArray), t1093⟩ : S40) [.string (⟨#[67, 111, 110, 116, 101, 110, 116, 45, 76, 101, 110, 103, 116, 104]⟩ : ByteArray), .string t1093] (fun _ => True) (fun _ => False) rfl rfl ?aP (fun _ hk => hk.elim) ?aF ?aO ?aB ?aS ?aL ?_
     (case aP => exact k40_mkM _ _ _ (⟨(⟨#[67, 111, 110, 116, 101, 110, 116, 45, 76, 101, 110, 103, 116, 104]⟩ : ByteArray), t1093⟩ : S40))
     (case aB => exact zB)
     (case aF => exact (fun _ _ => trivial))
     (case aO => exact zO HO1092.out)
     (case aS => exact (below_size zB))
     (case aL => have := LMc8.out; omega)
     intro v1095 w23 ho hb hg hat; rw [← Ny1094.out] at ho; replace BK1085 := aM (blk_grown (g := gb1085) (o := .cells #[.string a0_0, .string a0_1, .int .i64 a0_2, .string a0_3, .int .i64 a0_4, .slice A0_5 l0_5.length c0_5, .string a0_6] 49 (0, 0)) (zK BK1085.out) hg (Kd.R_ne HO1092.out BK1085.out (by decide))); replace BK1086 := aM (blk_grown (g := gb1086) (o := .cells #[.string a0_0, .string a0_1, .int .i64 a0_2, .string a0_3, .int .i64 a0_4, .slice A0_5 l0_5.length c0_5] 29 (0, 0)) (zK BK1086.out) hg (Kd.R_ne HO1092.out BK1086.out (by decide))); replace HO1089 := aM (Kd.R_over' (zO HO1089.out) (Kd.R_typed (zO HO1092.out)) (by decide) hg); replace HB := aM hb; have HO1096 := aM ho; clear HO1092; clear ho hb hg hat; obtain ⟨Ao24, co24, eo24⟩ := Kd.R_slice HO1096.out
     (first | subst eo24 | (injection eo24 with f1_ f2_ f3_; have f4_ := f1_.symm; have f5_ := f3_.symm; clear f1_ f2_ f3_; subst f4_; subst f5_))
     refine hK.out _ _ ⟨(blk_cell BK1086.out 0).trans rfl, (blk_cell BK1086.out 1).trans rfl, (blk_cell BK1086.out 2).trans rfl, (blk_cell BK1086.out 3).trans rfl, (blk_cell BK1086.out 4).trans rfl, (blk_cell BK1086.out 5).trans rfl, (blk_cell BK1085.out 0).trans rfl, (blk_cell BK1085.out 1).trans rfl, (blk_cell BK1085.out 2).trans rfl, (blk_cell BK1085.out 3).trans rfl, (blk_cell BK1085.out 4).trans rfl, (blk_cell BK1085.out 5).trans rfl, (blk_cell BK1085.out 6).trans rfl⟩ (fun hHeld => ?_)
     clear hK K
     refine norm_ (a' := ?_) ?_ ?_
     rotate_left
     ·show Act.put _ (some 25) _ = _
      exact zP
     refine pR 11 26 (dB 13 4095) HT_.out ?_
     refine last_ (i := 12) (N := none) (dB 13 8191) rfl rfl (one_of HT_.out (by kernel_rfl)) (by decide) (fun K hK => ?_)
     have hs25 : w23.cell? ⟨gb1086, 5, none⟩ = some (.slice A0_5 l0_5.length c0_5) := (blk_cell BK1086.out 5).trans rfl; have hfs25 := blk_frozen BK1086.out 5; have hns25_0 := NB1085_1086.out; have hms25_0 := NB1086_1085.out
     refine skip_ (w1 := ?_) (by rfl) rfl ?_ ?_
     rotate_left
     ·go_simp; rfl
     refine hK.out _ _ ?_
     clear hK K
     refine done_ (done_of HT_.out (by kernel_rfl)) ?_
     obtain ⟨_, _, _, _, _, _, _, _, _, _, _, _⟩ := cz6 BK1086.out
     try go_wp2_with (first | ((with_reducible refine gate_callee (f := 37) rfl ?_); refine goesL_ (some 30) rfl rfl Tryz.func37 (by kernel_rfl) rfl #[.agg #[.string a0_0, .string a0_1, .int .i64 a0_2, .string a0_3, .int .i64 a0_4, .slice Ao24 y1094.length co24], .bool a1] rfl zL ?_; (with_reducible refine (lockageref06_Print.calls k a0_0 a0_1 a0_2 a0_3 a0_4 _ _ y1094 a1 t1097 t1098 _ ?side1 ?side2 A9.out).mono ?_); (case side1 => refine (Kd.R_reads' (e := 40) (base := w.heap.size) (ok := fun k_ => True) (n := y1094.length) (c := co24) ?_).2.2; exact (by (with_reducible repeat (first | apply rA | apply rN | apply rD)); exact (Kd.R_mono (Kd.R_far (p := ⟨gb1086, 5, none⟩) (Kd.R_types HO1096.out BK1086.out (by decide)) (fun _ hk => hk.2) (.slice Ao24 y1094.length co24)) (fun _ h_ => h_.1)))); (case side2 => exact (Kd.R_reads' HO1096.out).2.1); rintro e w27 ⟨rfl, hb⟩; refine ⟨_, rfl, ?_⟩; replace HO1089 := aM (Kd.R_below (by (with_reducible repeat (first | apply rA | apply rN | apply rD)); exact (Kd.R_mono (Kd.R_far (p := ⟨gb1086, 5, none⟩) (Kd.R_types HO1089.out BK1086.out (by decide)) (fun _ hk => hk.2) (.slice Ao24 y1094.length co24)) (fun _ h_ => h_.1))) hb); replace HO1096 := aM (Kd.R_below (by (with_reducible repeat (first | apply rA | apply rN | apply rD)); exact (Kd.R_mono (Kd.R_far (p := ⟨gb1086, 5, none⟩) (Kd.R_types HO1096.out BK1086.out (by decide)) (fun _ hk => hk.2) (.slice Ao24 y1094.length co24)) (fun _ h_ => h_.1))) hb); replace BK1085 := aM (blk_below (g := gb1085) (o := .cells #[.string a0_0, .string a0_1, .int .i64 a0_2, .string a0_3, .int .i64 a0_4, .slice A0_5 l0_5.length c0_5, .string a0_6] 49 (0, 0)) (zF BK1085.out) hb); replace BK1086 := aM (blk_below (g := gb1086) (o := .cells #[.string a0_0, .string a0_1, .int .i64 a0_2, .string a0_3, .int .i64 a0_4, .slice Ao24 y1094.length co24] 29 (0, 0)) (by (with_reducible repeat (first | refine bN ?_ _ | refine bD ?_ | refine bA ?_ _)); refine blk_put (cs := #[.string a0_0, .string a0_1, .int .i64 a0_2, .string a0_3, .int .i64 a0_4, .slice A0_5 l0_5.length c0_5]) ?_ 5 _ rfl; (with_reducible repeat (first | refine bN ?_ _ | refine bD ?_ | refine bA ?_ _)); exact BK1086.out) hb); replace HB := aM (below_step zB hb); clear hb; obtain ⟨_, _, _, _, _, _, _, _, _, _, _, _, _, _⟩ := cz7 BK1085.out))
     go_ret2
     exact ⟨zE, zB⟩
    ·exact zf c11 H
   ·rw [if_neg c10] at H; obtain ⟨c10b0, c10b1⟩ := ze c10; simp only [Option.some.injEq, Prod.mk.injEq] at H; obtain ⟨rfl, rfl⟩ := H
    go_enter Tryz.func18, Tryz.ntmps18
    try go_wp2_with (first | ((with_reducible refine gate_dst (N := 2) rfl ?_); refine box_event ?hg (N := 2) ?hd (cs := #[.string a0_0, .string a0_1, .int .i64 a0_2, .string a0_3, .int .i64 a0_4, .slice A0_5 l0_5.length c0_5, .string a0_6]) (t := 49) ?hr ?_; (case hd => rfl); (case hg => rfl); (case hr => exact zG); intro gb1085 hg w29 hbox hb; have BK1085 := aM hbox; have GW1085 := aM (by rw [hg]; exact (below_size zB) : w.heap.size ≤ gb1085); replace HB := aM (below_step zB hb); have GE1085 := GW1085; clear hb hbox hg; obtain ⟨_, _, _, _, _, _, _, _, _, _, _, _, _, _⟩ := cz7 BK1085.out) | ((with_reducible refine gate_dst (N := 6) rfl ?_); refine box_event ?hg (N := 6) ?hd (cs := #[.string (⟨#[]⟩ : ByteArray), .string (⟨#[]⟩ : ByteArray), .int .i64 0, .string (⟨#[]⟩ : ByteArray), .int .i64 0, .slice none 0 0]) (t := 29) ?hr ?_; (case hd => rfl); (case hg => rfl); (case hr => exact zG); intro gb1086 hg w31 hbox hb; have BK1086 := aM hbox; have GW1086 := aM (by rw [hg]; exact (below_size zB) : w.heap.size ≤ gb1086); replace HB := aM (below_step zB hb); have GE1086 := GW1086; have NB1085_1086 := aM (by rw [hg]; exact Nat.ne_of_lt (blk_lt (zK BK1085.out)) : gb1085 ≠ gb1086); replace BK1085 := aM (zX BK1085.out hb); have NB1086_1085 := aM NB1085_1086.out.symm; clear hb hbox hg; have hnb32 := NB1086_1085.out; have hnc32 := NB1085_1086.out; obtain ⟨_, _, _, _, _, _, _, _, _, _, _, _⟩ := cz6 BK1086.out))
    have n0_ : Aside0 (((((((w31.setCell ⟨gb1086, 0, none⟩ (.string a0_0)).setCell ⟨gb1086, 1, none⟩ (.string a0_1)).setCell ⟨gb1086, 2, none⟩ (.int .i64 a0_2)).setCell ⟨gb1086, 3, none⟩ (.string a0_3)).setCell ⟨gb1086, 4, none⟩ (.int .i64 a0_4)).setCell ⟨gb1086, 5, none⟩ (.slice A0_5 l0_5.length c0_5)).heap[gb1085]? = some (.cells #[.string a0_0, .string a0_1, .int .i64 a0_2, .string a0_3, .int .i64 a0_4, .slice A0_5 l0_5.length c0_5, .string a0_6] 49 (0, 0))) := ⟨zF BK1085.out⟩; have n1_ : Aside0 (((((((w31.setCell ⟨gb1086, 0, none⟩ (.string a0_0)).setCell ⟨gb1086, 1, none⟩ (.string a0_1)).setCell ⟨gb1086, 2, none⟩ (.int .i64 a0_2)).setCell ⟨gb1086, 3, none⟩ (.string a0_3)).setCell ⟨gb1086, 4, none⟩ (.int .i64 a0_4)).setCell ⟨gb1086, 5, none⟩ (.slice A0_5 l0_5.length c0_5)).heap[gb1086]? = some (.cells #[.string a0_0, .string a0_1, .int .i64 a0_2, .string a0_3, .int .i64 a0_4, .slice A0_5 l0_5.length c0_5] 29 (0, 0))) := ⟨zQ6 BK1086.out⟩; have n2_ : Aside0 (Below w.heap.size w ((((((w31.setCell ⟨gb1086, 0, none⟩ (.string a0_0)).setCell ⟨gb1086, 1, none⟩ (.string a0_1)).setCell ⟨gb1086, 2, none⟩ (.int .i64 a0_2)).setCell ⟨gb1086, 3, none⟩ (.string a0_3)).setCell ⟨gb1086, 4, none⟩ (.int .i64 a0_4)).setCell ⟨gb1086, 5, none⟩ (.slice A0_5 l0_5.length c0_5))) := ⟨zB⟩
    (try clear BK1085)
    (try clear BK1086)
    (try clear HB)
    generalize ((((((w31.setCell ⟨gb1086, 0, none⟩ (.string a0_0)).setCell ⟨gb1086, 1, none⟩ (.string a0_1)).setCell ⟨gb1086, 2, none⟩ (.int .i64 a0_2)).setCell ⟨gb1086, 3, none⟩ (.string a0_3)).setCell ⟨gb1086, 4, none⟩ (.int .i64 a0_4)).setCell ⟨gb1086, 5, none⟩ (.slice A0_5 l0_5.length c0_5)) = w34 at n0_ n1_ n2_ ⊢; have BK1085 := n0_; have BK1086 := n1_; have HB := n2_; clear n0_ n1_ n2_; replace BK1085 := aM (bD BK1085.out); replace BK1086 := aM (bD BK1086.out); replace HB := aM (lD HB.out)
    refine start_ (n := 13) (S := fun w' => w'.cell? ⟨gb1086, 0, none⟩ = some (.string a0_0) ∧ w'.cell? ⟨gb1086, 1, none⟩ = some (.string a0_1) ∧ w'.cell? ⟨gb1086, 2, none⟩ = some (.int .i64 a0_2) ∧ w'.cell? ⟨gb1086, 3, none⟩ = some (.string a0_3) ∧ w'.cell? ⟨gb1086, 4, none⟩ = some (.int .i64 a0_4) ∧ w'.cell? ⟨gb1086, 5, none⟩ = some (.slice A0_5 l0_5.length c0_5) ∧ w'.cell? ⟨gb1085, 0, none⟩ = some (.string a0_0) ∧ w'.cell? ⟨gb1085, 1, none⟩ = some (.string a0_1) ∧ w'.cell? ⟨gb1085, 2, none⟩ = some (.int .i64 a0_2) ∧ w'.cell? ⟨gb1085, 3, none⟩ = some (.string a0_3) ∧ w'.cell? ⟨gb1085, 4, none⟩ = some (.int .i64 a0_4) ∧ w'.cell? ⟨gb1085, 5, none⟩ = some (.slice A0_5 l0_5.length c0_5) ∧ w'.cell? ⟨gb1085, 6, none⟩ = some (.string a0_6)) (ds := [12]) (dB 13 0) (by kernel_rfl) rfl rfl ⟨(blk_cell BK1086.out 0).trans rfl, (blk_cell BK1086.out 1).trans rfl, (blk_cell BK1086.out 2).trans rfl, (blk_cell BK1086.out 3).trans rfl, (blk_cell BK1086.out 4).trans rfl, (blk_cell BK1086.out 5).trans rfl, (blk_cell BK1085.out 0).trans rfl, (blk_cell BK1085.out 1).trans rfl, (blk_cell BK1085.out 2).trans rfl, (blk_cell BK1085.out 3).trans rfl, (blk_cell BK1085.out 4).trans rfl, (blk_cell BK1085.out 5).trans rfl, (blk_cell BK1085.out 6).trans rfl⟩ (fun hHeld => ?_); refine with_tabW lockageref09_Print.tab4 lockageref09_Print.bits4 (fun HT_ HW_ => ?_)
    generalize w34.drew = w35 at BK1085 BK1086 HB hHeld ⊢
    refine pR 0 15 (dB 13 1) HT_.out ?_
    refine pR 4 19 (dB 13 17) HT_.out ?_
    refine tR 1 16 (dB 13 19) HT_.out HW_.out hHeld ?_
    refine tR 5 20 (dB 13 51) HT_.out HW_.out hHeld ?_
    refine pR 6 21 (dB 13 115) HT_.out ?_
    refine oR 2 17 (dB 13 119) HT_.out (fun K hK => ?_)
    refine Kd.R_lit_step Kd.string _ 9 ?hg (N := 17) ?hd (xs := ([(⟨#[99, 111, 110, 116, 101, 110, 116, 45, 108, 101, 110, 103, 116, 104]⟩ : ByteArray), (⟨#[116, 114, 97, 110, 115, 102, 101, 114, 45, 101, 110, 99, 111, 100, 105, 110, 103]⟩ : ByteArray)] : List ByteArray)) (inner := [.string (⟨#[99, 111, 110, 116, 101, 110, 116, 45, 108, 101, 110, 103, 116, 104]⟩ : ByteArray), .string (⟨#[116, 114, 97, 110, 115, 102, 101, 114, 45, 101, 110, 99, 111, 100, 105, 110, 103]⟩ : ByteArray)]) (ok := fun _ => True) (okp := fun _ => True) ?hr ?hp (fun _ hk => hk) trivial (Below.refl _ _) (Nat.le_refl _) (by simp) ?_; (case hd => rfl); (case hg => rfl); (case hr => exact zG); (case hp => exact (Reps.one (zY (⟨#[99, 111, 110, 116, 101, 110, 116, 45, 108, 101, 110, 103, 116, 104]⟩ : ByteArray)) (Reps.one (zY (⟨#[116, 114, 97, 110, 115, 102, 101, 114, 45, 101, 110, 99, 111, 100, 105, 110, 103]⟩ : ByteArray)) (Reps.none _ _))))
    intro v1088 w36 ho37 hb hg_ hnew_; clear hg_ hnew_
    (first | rw [← Ny1087.out] at ho37 | (simp only [Int.reduceToNat] at ho37; rw [← Ny1087.out] at ho37))
    have HO1089 := aM (Kd.R_lower ho37 (below_size zB)); replace BK1085 := aM (zX BK1085.out hb); replace BK1086 := aM (zX BK1086.out hb); replace HB := aM (below_step zB hb); clear hb ho37; obtain ⟨Ao38, co38, eo38⟩ := Kd.R_slice HO1089.out
    (first | subst eo38 | (injection eo38 with f1_ f2_ f3_; have f4_ := f1_.symm; have f5_ := f3_.symm; clear f1_ f2_ f3_; subst f4_; subst f5_))
    refine hK.out _ _ ⟨(blk_cell BK1086.out 0).trans rfl, (blk_cell BK1086.out 1).trans rfl, (blk_cell BK1086.out 2).trans rfl, (blk_cell BK1086.out 3).trans rfl, (blk_cell BK1086.out 4).trans rfl, (blk_cell BK1086.out 5).trans rfl, (blk_cell BK1085.out 0).trans rfl, (blk_cell BK1085.out 1).trans rfl, (blk_cell BK1085.out 2).trans rfl, (blk_cell BK1085.out 3).trans rfl, (blk_cell BK1085.out 4).trans rfl, (blk_cell BK1085.out 5).trans rfl, (blk_cell BK1085.out 6).trans rfl⟩ (fun hHeld => ?_)
    clear hK K
    refine norm_ (a' := ?_) ?_ ?_
    rotate_left
    ·show Act.put _ (some 17) _ = _
     exact zP
    refine oR 3 18 (dB 13 127) HT_.out (fun K hK => ?_)
    refine goes_ Tryz.func24 (by kernel_rfl) rfl #[.slice A0_5 l0_5.length c0_5, .slice Ao38 y1087.length co38] (by rfl) rfl rfl zL ?_
    with_reducible refine (lockageref05_Drop.calls k _ _ l0_5 _ _ y1087 t1090 _ ?side1 ?side2 ?side3 ?side4 A6.out).mono ?_
    (case side1 => exact zC (Kd.C_below HR0_5.out HB.out))
    (case side2 => exact HC0_5.out)
    (case side3 => exact zC ((Kd.R_reads' HO1089.out).2.2))
    (case side4 => exact (Kd.R_reads' HO1089.out).2.1)
    rintro e w39 ⟨v1091, rfl, ho0, hb⟩
    refine ⟨_, rfl, ?_⟩
    replace HO1089 := aM (Kd.R_below (zO HO1089.out) hb); have HO1092 := aM (Kd.R_lower ho0 (below_size zB)); replace BK1085 := aM (zX BK1085.out hb); replace BK1086 := aM (zX BK1086.out hb); replace HB := aM (below_step zB hb)
    (try clear hb)
    (try clear hb2)
    (try clear hk)
    (try clear hi)
    (try clear ho0)
    refine hK.out _ _ ⟨(blk_cell BK1086.out 0).trans rfl, (blk_cell BK1086.out 1).trans rfl, (blk_cell BK1086.out 2).trans rfl, (blk_cell BK1086.out 3).trans rfl, (blk_cell BK1086.out 4).trans rfl, (blk_cell BK1086.out 5).trans rfl, (blk_cell BK1085.out 0).trans rfl, (blk_cell BK1085.out 1).trans rfl, (blk_cell BK1085.out 2).trans rfl, (blk_cell BK1085.out 3).trans rfl, (blk_cell BK1085.out 4).trans rfl, (blk_cell BK1085.out 5).trans rfl, (blk_cell BK1085.out 6).trans rfl⟩ (fun hHeld => ?_)
    clear hK K
    refine norm_ (a' := ?_) ?_ ?_
    rotate_left
    ·show Act.put _ (some 18) _ = _
     exact zP
    refine oR 7 22 (dB 13 255) HT_.out (fun K hK => ?_)
    refine goes_ Tryz.func36 (by kernel_rfl) rfl #[.int .i64 (a0_6.size : Int), .int .i64 10] (by rfl) rfl rfl zL ?_
    with_reducible refine (lockageref03_Text.calls k (a0_6.size : Int) 10 t1093 _ A7.out).mono ?_
    rintro e w' ⟨rfl, ⟨nd, rfl⟩⟩
    refine ⟨_, rfl, ?_⟩
    refine hK.out _ _ ⟨(blk_cell BK1086.out 0).trans rfl, (blk_cell BK1086.out 1).trans rfl, (blk_cell BK1086.out 2).trans rfl, (blk_cell BK1086.out 3).trans rfl, (blk_cell BK1086.out 4).trans rfl, (blk_cell BK1086.out 5).trans rfl, (blk_cell BK1085.out 0).trans rfl, (blk_cell BK1085.out 1).trans rfl, (blk_cell BK1085.out 2).trans rfl, (blk_cell BK1085.out 3).trans rfl, (blk_cell BK1085.out 4).trans rfl, (blk_cell BK1085.out 5).trans rfl, (blk_cell BK1085.out 6).trans rfl⟩ (fun hHeld => ?_)
    clear hK K
    refine norm_ (a' := ?_) ?_ ?_
    rotate_left
    ·show Act.put _ (some 22) _ = _
     exact zP
    refine pR 8 23 (dB 13 511) HT_.out ?_
    refine oR 9 24 (dB 13 1023) HT_.out (fun K hK => ?_)
    refine value_ (w1 := ?_) (v := ?_) (by rfl) rfl ?_ ?_
    rotate_left 2
    ·go_simp
     constructor
     ·rfl
     ·rfl
    refine hK.out _ _ ⟨(blk_cell (bA BK1086.out _) 0).trans rfl, (blk_cell (bA BK1086.out _) 1).trans rfl, (blk_cell (bA BK1086.out _) 2).trans rfl, (blk_cell (bA BK1086.out _) 3).trans rfl, (blk_cell (bA BK1086.out _) 4).trans rfl, (blk_cell (bA BK1086.out _) 5).trans rfl, (blk_cell (bA BK1085.out _) 0).trans rfl, (blk_cell (bA BK1085.out _) 1).trans rfl, (blk_cell (bA BK1085.out _) 2).trans rfl, (blk_cell (bA BK1085.out _) 3).trans rfl, (blk_cell (bA BK1085.out _) 4).trans rfl, (blk_cell (bA BK1085.out _) 5).trans rfl, (blk_cell (bA BK1085.out _) 6).trans rfl⟩ (fun hHeld => ?_)
    clear hK K
    refine norm_ (a' := ?_) ?_ ?_
    rotate_left
    ·show Act.put _ (some 24) _ = _
     exact zP
    refine oR 10 25 (dB 13 2047) HT_.out (fun K hK => ?_)
    refine Kd.R_append_step k40 (w0 := w) w.heap.size (by rfl) (.tmp 18) (.tmp 24) 27 40 (.agg #[(.string ⟨#[]⟩), (.string ⟨#[]⟩)]) 32 rfl Tryz.underlying27 info40 rfl (by decide) (by omega) v1091 t1090 (⟨(⟨#[67, 111, 110, 116, 101, 110, 116, 45, 76, 101, 110, 103, 116, 104]⟩ : ByteArray), t1093⟩ : S40) [.string (⟨#[67, 111, 110, 116, 101, 110, 116, 45, 76, 101, 110, 103, 116, 104]⟩ : ByteArray), .string t1093] (fun _ => True) (fun _ => False) rfl rfl ?aP (fun _ hk => hk.elim) ?aF ?aO ?aB ?aS ?aL ?_
    (case aP => exact k40_mkM _ _ _ (⟨(⟨#[67, 111, 110, 116, 101, 110, 116, 45, 76, 101, 110, 103, 116, 104]⟩ : ByteArray), t1093⟩ : S40))
    (case aB => exact zB)
    (case aF => exact (fun _ _ => trivial))
    (case aO => exact zO HO1092.out)
    (case aS => exact (below_size zB))
    (case aL => have := LMc8.out; omega)
    intro v1095 w40 ho hb hg hat; rw [← Ny1094.out] at ho; replace BK1085 := aM (blk_grown (g := gb1085) (o := .cells #[.string a0_0, .string a0_1, .int .i64 a0_2, .string a0_3, .int .i64 a0_4, .slice A0_5 l0_5.length c0_5, .string a0_6] 49 (0, 0)) (zK BK1085.out) hg (Kd.R_ne HO1092.out BK1085.out (by decide))); replace BK1086 := aM (blk_grown (g := gb1086) (o := .cells #[.string a0_0, .string a0_1, .int .i64 a0_2, .string a0_3, .int .i64 a0_4, .slice A0_5 l0_5.length c0_5] 29 (0, 0)) (zK BK1086.out) hg (Kd.R_ne HO1092.out BK1086.out (by decide))); replace HO1089 := aM (Kd.R_over' (zO HO1089.out) (Kd.R_typed (zO HO1092.out)) (by decide) hg); replace HB := aM hb; have HO1096 := aM ho; clear HO1092; clear ho hb hg hat; obtain ⟨Ao41, co41, eo41⟩ := Kd.R_slice HO1096.out
    (first | subst eo41 | (injection eo41 with f1_ f2_ f3_; have f4_ := f1_.symm; have f5_ := f3_.symm; clear f1_ f2_ f3_; subst f4_; subst f5_))
    refine hK.out _ _ ⟨(blk_cell BK1086.out 0).trans rfl, (blk_cell BK1086.out 1).trans rfl, (blk_cell BK1086.out 2).trans rfl, (blk_cell BK1086.out 3).trans rfl, (blk_cell BK1086.out 4).trans rfl, (blk_cell BK1086.out 5).trans rfl, (blk_cell BK1085.out 0).trans rfl, (blk_cell BK1085.out 1).trans rfl, (blk_cell BK1085.out 2).trans rfl, (blk_cell BK1085.out 3).trans rfl, (blk_cell BK1085.out 4).trans rfl, (blk_cell BK1085.out 5).trans rfl, (blk_cell BK1085.out 6).trans rfl⟩ (fun hHeld => ?_)
    clear hK K
    refine norm_ (a' := ?_) ?_ ?_
    rotate_left
    ·show Act.put _ (some 25) _ = _
     exact zP
    refine pR 11 26 (dB 13 4095) HT_.out ?_
    refine last_ (i := 12) (N := none) (dB 13 8191) rfl rfl (one_of HT_.out (by kernel_rfl)) (by decide) (fun K hK => ?_)
    have hs42 : w40.cell? ⟨gb1086, 5, none⟩ = some (.slice A0_5 l0_5.length c0_5) := (blk_cell BK1086.out 5).trans rfl; have hfs42 := blk_frozen BK1086.out 5; have hns42_0 := NB1085_1086.out; have hms42_0 := NB1086_1085.out
    refine skip_ (w1 := ?_) (by rfl) rfl ?_ ?_
    rotate_left
    ·go_simp; rfl
    refine hK.out _ _ ?_
    clear hK K
    refine done_ (done_of HT_.out (by kernel_rfl)) ?_
    obtain ⟨_, _, _, _, _, _, _, _, _, _, _, _⟩ := cz6 BK1086.out
    try go_wp2_with (first | ((with_reducible refine gate_callee (f := 37) rfl ?_); refine goesL_ (some 30) rfl rfl Tryz.func37 (by kernel_rfl) rfl #[.agg #[.string a0_0, .string a0_1, .int .i64 a0_2, .string a0_3, .int .i64 a0_4, .slice Ao41 y1094.length co41], .bool a1] rfl zL ?_; (with_reducible refine (lockageref06_Print.calls k a0_0 a0_1 a0_2 a0_3 a0_4 _ _ y1094 a1 t1097 t1098 _ ?side1 ?side2 A9.out).mono ?_); (case side1 => refine (Kd.R_reads' (e := 40) (base := w.heap.size) (ok := fun k_ => True) (n := y1094.length) (c := co41) ?_).2.2; exact (by (with_reducible repeat (first | apply rA | apply rN | apply rD)); exact (Kd.R_mono (Kd.R_far (p := ⟨gb1086, 5, none⟩) (Kd.R_types HO1096.out BK1086.out (by decide)) (fun _ hk => hk.2) (.slice Ao41 y1094.length co41)) (fun _ h_ => h_.1)))); (case side2 => exact (Kd.R_reads' HO1096.out).2.1); rintro e w44 ⟨rfl, hb⟩; refine ⟨_, rfl, ?_⟩; replace HO1089 := aM (Kd.R_below (by (with_reducible repeat (first | apply rA | apply rN | apply rD)); exact (Kd.R_mono (Kd.R_far (p := ⟨gb1086, 5, none⟩) (Kd.R_types HO1089.out BK1086.out (by decide)) (fun _ hk => hk.2) (.slice Ao41 y1094.length co41)) (fun _ h_ => h_.1))) hb); replace HO1096 := aM (Kd.R_below (by (with_reducible repeat (first | apply rA | apply rN | apply rD)); exact (Kd.R_mono (Kd.R_far (p := ⟨gb1086, 5, none⟩) (Kd.R_types HO1096.out BK1086.out (by decide)) (fun _ hk => hk.2) (.slice Ao41 y1094.length co41)) (fun _ h_ => h_.1))) hb); replace BK1085 := aM (blk_below (g := gb1085) (o := .cells #[.string a0_0, .string a0_1, .int .i64 a0_2, .string a0_3, .int .i64 a0_4, .slice A0_5 l0_5.length c0_5, .string a0_6] 49 (0, 0)) (zF BK1085.out) hb); replace BK1086 := aM (blk_below (g := gb1086) (o := .cells #[.string a0_0, .string a0_1, .int .i64 a0_2, .string a0_3, .int .i64 a0_4, .slice Ao41 y1094.length co41] 29 (0, 0)) (by (with_reducible repeat (first | refine bN ?_ _ | refine bD ?_ | refine bA ?_ _)); refine blk_put (cs := #[.string a0_0, .string a0_1, .int .i64 a0_2, .string a0_3, .int .i64 a0_4, .slice A0_5 l0_5.length c0_5]) ?_ 5 _ rfl; (with_reducible repeat (first | refine bN ?_ _ | refine bD ?_ | refine bA ?_ _)); exact BK1086.out) hb); replace HB := aM (below_step zB hb); clear hb))
    go_ret2
    exact ⟨zE, zB⟩
  ·exact zf c8 H

end Go.Proofs.YtapeodbgobkjeaaGreatDoor.P
