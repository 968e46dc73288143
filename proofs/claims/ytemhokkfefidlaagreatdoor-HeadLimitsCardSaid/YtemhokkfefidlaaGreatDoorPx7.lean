/- Printed by a program of the session out of the translation: plain Lean functions, each with the contract that the Go function computes it. -/
import Derived.Test.YtemhokkfefidlaaGreatDoorHZ
import Derived.Test.YtemhokkfefidlaaGreatDoorPx0
import Derived.Test.YtemhokkfefidlaaGreatDoorHG
import Derived.Test.YtemhokkfefidlaaGreatDoorHZB
import Derived.Test.YtemhokkfefidlaaGreatDoorHZJ
namespace Go.Proofs.YtemhokkfefidlaaGreatDoor.P
open Go.RowKit Go.Proofs.YtemhokkfefidlaaGreatDoorW.PrintWords Go.Proofs.YtemhokkfefidlaaGreatDoorW.PrintLast Go.Proofs.YtemhokkfefidlaaGreatDoorW.PrintMore
attribute [local go_sem] max2_int min2_int max_two min_two max_three min_three max_four min_four   -- for this text's walks alone
set_option linter.unusedVariables false
set_option linter.unusedSimpArgs false

mutual
def head_Print.j0 : Nat → List ByteArray → ByteArray → ByteArray → Int → ByteArray → Int → List (S37) → Option (ByteArray × Int)
 | 0, _, _, _, _, _, _, _ => none
 | k + 1, x7, x187000, x187001, x187002, x187003, x187004, x187005 => (strings_Join.f x7 (⟨#[32]⟩ : ByteArray)).bind fun t196 => (head_Print.l0 k (([t196] : List ByteArray)) x187005 (x187005.length : Int) 0)
def head_Print.l0 : Nat → List ByteArray → List (S37) → Int → Int → Option (ByteArray × Int)
 | 0, _, _, _, _ => none
 | k + 1, x8, x38, x39, x40 => if x40 < x39 then (if 0 ≤ x40 then (if x40 < (x38.length : Int) then (if ((rd_T37 x38 x40).f0).size + 2 ≤ 9223372036854775807 then (if (((rd_T37 x38 x40).f0) ++ (⟨#[58, 32]⟩ : ByteArray)).size + ((rd_T37 x38 x40).f1).size ≤ 9223372036854775807 then (if x8.length < 8796093022208 then (head_Print.l0 k (x8 ++ [(((rd_T37 x38 x40).f0) ++ (⟨#[58, 32]⟩ : ByteArray)) ++ ((rd_T37 x38 x40).f1)]) x38 x39 (wrap64 (x40 + 1))) else (none)) else (none)) else (none)) else (none)) else (none)) else ((strings_Join.f x8 (⟨#[13, 10]⟩ : ByteArray)).bind fun t205 => (if (t205.size : Int) > 2000 then (some ((⟨#[]⟩ : ByteArray), 2)) else (if t205.size + 2 ≤ 9223372036854775807 then (if (t205 ++ (⟨#[13, 10]⟩ : ByteArray)).size + 2 ≤ 9223372036854775807 then (some ((t205 ++ (⟨#[13, 10]⟩ : ByteArray)) ++ (⟨#[13, 10]⟩ : ByteArray), 0)) else (none)) else (none))))
end
def head_Print.f (k : Nat) (a0_0 : ByteArray) (a0_1 : ByteArray) (a0_2 : Int) (a0_3 : ByteArray) (a0_4 : Int) (l0_5 : List (S37)) (a1 : Bool) : Option (ByteArray × Int) := (head_Right.f k a0_0 a0_1 a0_2 a0_3 a0_4 l0_5 a1).bind fun t187 => (if t187 = true then ((num_Text.f a0_4 10).bind fun t188 => (if 7 + t188.size ≤ 9223372036854775807 then (if a1 = true then ((num_Text.f a0_2 10).bind fun t192 => (head_Print.j0 k (([(⟨#[72, 84, 84, 80, 47, 49, 46]⟩ : ByteArray) ++ t188, t192, a0_3] : List ByteArray)) a0_0 a0_1 a0_2 a0_3 a0_4 l0_5)) else (head_Print.j0 k (([a0_0, a0_1, (⟨#[72, 84, 84, 80, 47, 49, 46]⟩ : ByteArray) ++ t188] : List ByteArray)) a0_0 a0_1 a0_2 a0_3 a0_4 l0_5)) else (none))) else (some ((⟨#[]⟩ : ByteArray), 1)))
theorem head_Print.mono_l : ∀ k, (∀ y0 y1 y2 y3 y4 y5 y6, LeO (head_Print.j0 k y0 y1 y2 y3 y4 y5 y6) (head_Print.j0 (k + 1) y0 y1 y2 y3 y4 y5 y6)) ∧ (∀ y0 y1 y2 y3, LeO (head_Print.l0 k y0 y1 y2 y3) (head_Print.l0 (k + 1) y0 y1 y2 y3))
 | 0 => ⟨fun _ _ _ _ _ _ _ r h => by simp [head_Print.j0] at h, fun _ _ _ _ r h => by simp [head_Print.l0] at h⟩
 | k + 1 => by
  obtain ⟨ih0, ih1⟩ := head_Print.mono_l k
  refine ⟨?_, ?_⟩
  ·intro y0 y1 y2 y3 y4 y5 y6
   unfold head_Print.j0
   repeat' first
   | (with_reducible exact ih0 _ _ _ _ _ _ _)
   | (with_reducible exact ih1 _ _ _ _)
   | (with_reducible exact head_Right.mono _ _ _ _ _ _ _ _)
   | (with_reducible exact LeO.refl _)
   | (with_reducible exact LeO.none _)
   | (with_reducible refine LeO.ite ?_ ?_)
   | (with_reducible refine LeO.bind ?_ (fun _ => ?_))
   | exact ih0 _ _ _ _ _ _ _
   | exact ih1 _ _ _ _
   | exact head_Right.mono _ _ _ _ _ _ _ _
   | exact LeO.none _
   | refine LeO.ite ?_ ?_
   | refine LeO.bind ?_ (fun _ => ?_)
  ·intro y0 y1 y2 y3
   unfold head_Print.l0
   repeat' first
   | (with_reducible exact ih0 _ _ _ _ _ _ _)
   | (with_reducible exact ih1 _ _ _ _)
   | (with_reducible exact head_Right.mono _ _ _ _ _ _ _ _)
   | (with_reducible exact LeO.refl _)
   | (with_reducible exact LeO.none _)
   | (with_reducible refine LeO.ite ?_ ?_)
   | (with_reducible refine LeO.bind ?_ (fun _ => ?_))
   | exact ih0 _ _ _ _ _ _ _
   | exact ih1 _ _ _ _
   | exact head_Right.mono _ _ _ _ _ _ _ _
   | exact LeO.none _
   | refine LeO.ite ?_ ?_
   | refine LeO.bind ?_ (fun _ => ?_)
theorem head_Print.mono : ∀ a0 a1 a2 a3 a4 a5 a6 k, LeO (head_Print.f k a0 a1 a2 a3 a4 a5 a6) (head_Print.f (k + 1) a0 a1 a2 a3 a4 a5 a6) := by
 intro a0 a1 a2 a3 a4 a5 a6 k
 obtain ⟨ih0, ih1⟩ := head_Print.mono_l k
 unfold head_Print.f
 repeat' first
   | (with_reducible exact ih0 _ _ _ _ _ _ _)
   | (with_reducible exact ih1 _ _ _ _)
   | (with_reducible exact head_Right.mono _ _ _ _ _ _ _ _)
   | (with_reducible exact LeO.refl _)
   | (with_reducible exact LeO.none _)
   | (with_reducible refine LeO.ite ?_ ?_)
   | (with_reducible refine LeO.bind ?_ (fun _ => ?_))
   | exact ih0 _ _ _ _ _ _ _
   | exact ih1 _ _ _ _
   | exact head_Right.mono _ _ _ _ _ _ _ _
   | exact LeO.none _
   | refine LeO.ite ?_ ?_
   | refine LeO.bind ?_ (fun _ => ?_)
def head_Print.T6 : Bool × List (List Nat × List Nat) := (true, [([], []), ([], []), ([1], [1]), ([2], [2]), ([], []), ([4], [4]), ([0, 3, 5], [0, 3, 5]), ([6, 3, 0, 1, 2, 3, 4, 5, 6], [6])])
def head_Print.B6 : List Nat := [0, 0, 2, 6, 0, 16, 63, 127]
theorem head_Print.tab6 : rtab .any (opsOf Tryz.f16 6) = head_Print.T6 := by kernel_rfl
theorem head_Print.bits6 : waitsOk head_Print.T6.2 head_Print.B6 = true := by kernel_rfl
set_option maxHeartbeats 8000000 in
set_option maxRecDepth 100000 in
theorem head_Print.calls (k : Nat) (a0_0 : ByteArray) (a0_1 : ByteArray) (a0_2 : Int) (a0_3 : ByteArray) (a0_4 : Int) (A0_5 : Option Addr) (c0_5 : Nat) (l0_5 : List (S37)) (a1 : Bool) (r1 : ByteArray) (r2 : Int) (w : World) (hr0_5 : Kd.C k37 w A0_5 l0_5.length l0_5) (hc0_5 : l0_5.length ≤ c0_5) (hG_ : H.GlobOk w) (h : head_Print.f k a0_0 a0_1 a0_2 a0_3 a0_4 l0_5 a1 = some (r1, r2)) :
  Calls Tryz.prog 16 #[.agg #[.string a0_0, .string a0_1, .int .i64 a0_2, .string a0_3, .int .i64 a0_4, .slice A0_5 l0_5.length c0_5], .bool a1] w fun e w' => e = .returned (.tuple #[.string r1, .int .i64 r2]) ∧ Below w.heap.size w w' := by
 have HG_ := aM hG_
 clear hG_
 have hu30 := Tryz.underlying30
 have hu37 := Tryz.underlying37
 have HR0_5 := aM hr0_5
 have HC0_5 := aM hc0_5
 clear hr0_5 hc0_5
 have HB := aM (Below.refl w.heap.size w)
 have H : ((head_Right.f k a0_0 a0_1 a0_2 a0_3 a0_4 l0_5 a1).bind fun t187 => (if t187 = true then ((num_Text.f a0_4 10).bind fun t188 => (if 7 + t188.size ≤ 9223372036854775807 then (if a1 = true then ((num_Text.f a0_2 10).bind fun t192 => (head_Print.j0 k (([(⟨#[72, 84, 84, 80, 47, 49, 46]⟩ : ByteArray) ++ t188, t192, a0_3] : List ByteArray)) a0_0 a0_1 a0_2 a0_3 a0_4 l0_5)) else (head_Print.j0 k (([a0_0, a0_1, (⟨#[72, 84, 84, 80, 47, 49, 46]⟩ : ByteArray) ++ t188] : List ByteArray)) a0_0 a0_1 a0_2 a0_3 a0_4 l0_5)) else (none))) else (some ((⟨#[]⟩ : ByteArray), 1)))) = some (r1, r2) := h
 clear h
 replace H := Option.bind_eq_some_iff.mp H
 obtain ⟨t187, A30, H⟩ := H
 replace H : (if t187 = true then ((num_Text.f a0_4 10).bind fun t188 => (if 7 + t188.size ≤ 9223372036854775807 then (if a1 = true then ((num_Text.f a0_2 10).bind fun t192 => (head_Print.j0 k (([(⟨#[72, 84, 84, 80, 47, 49, 46]⟩ : ByteArray) ++ t188, t192, a0_3] : List ByteArray)) a0_0 a0_1 a0_2 a0_3 a0_4 l0_5)) else (head_Print.j0 k (([a0_0, a0_1, (⟨#[72, 84, 84, 80, 47, 49, 46]⟩ : ByteArray) ++ t188] : List ByteArray)) a0_0 a0_1 a0_2 a0_3 a0_4 l0_5)) else (none))) else (some ((⟨#[]⟩ : ByteArray), 1))) = some (r1, r2) := H
 have A3 := aM A30
 clear A30
 by_cases c4 : t187 = true
 ·subst c4
  have H1 : ((num_Text.f a0_4 10).bind fun t188 => (if 7 + t188.size ≤ 9223372036854775807 then (if a1 = true then ((num_Text.f a0_2 10).bind fun t192 => (head_Print.j0 k (([(⟨#[72, 84, 84, 80, 47, 49, 46]⟩ : ByteArray) ++ t188, t192, a0_3] : List ByteArray)) a0_0 a0_1 a0_2 a0_3 a0_4 l0_5)) else (head_Print.j0 k (([a0_0, a0_1, (⟨#[72, 84, 84, 80, 47, 49, 46]⟩ : ByteArray) ++ t188] : List ByteArray)) a0_0 a0_1 a0_2 a0_3 a0_4 l0_5)) else (none))) = some (r1, r2) := by rw [if_pos rfl] at H; exact H
  clear H
  have H := H1
  clear H1
  replace H := Option.bind_eq_some_iff.mp H
  obtain ⟨t188, A50, H⟩ := H
  replace H : (if 7 + t188.size ≤ 9223372036854775807 then (if a1 = true then ((num_Text.f a0_2 10).bind fun t192 => (head_Print.j0 k (([(⟨#[72, 84, 84, 80, 47, 49, 46]⟩ : ByteArray) ++ t188, t192, a0_3] : List ByteArray)) a0_0 a0_1 a0_2 a0_3 a0_4 l0_5)) else (head_Print.j0 k (([a0_0, a0_1, (⟨#[72, 84, 84, 80, 47, 49, 46]⟩ : ByteArray) ++ t188] : List ByteArray)) a0_0 a0_1 a0_2 a0_3 a0_4 l0_5)) else (none)) = some (r1, r2) := H
  have A5 := aM A50
  clear A50
  by_cases c6 : 7 + t188.size ≤ 9223372036854775807
  ·rw [if_pos c6] at H
   have c6b0 := eq_true c6
   have c6b1 : decide (7 + t188.size ≤ 9223372036854775807) = true := decide_eq_true c6
   try have c6b2 : (9223372036854775807 < 7 + t188.size) = False := eq_false (Nat.not_lt.2 c6)
   obtain ⟨y189, hy189⟩ : ∃ y_ : List ByteArray, y_ = (([a0_0, a0_1, (⟨#[72, 84, 84, 80, 47, 49, 46]⟩ : ByteArray) ++ t188] : List ByteArray)) := ⟨_, rfl⟩
   replace H : (if a1 = true then ((num_Text.f a0_2 10).bind fun t192 => (head_Print.j0 k (([(⟨#[72, 84, 84, 80, 47, 49, 46]⟩ : ByteArray) ++ t188, t192, a0_3] : List ByteArray)) a0_0 a0_1 a0_2 a0_3 a0_4 l0_5)) else (head_Print.j0 k y189 a0_0 a0_1 a0_2 a0_3 a0_4 l0_5)) = some (r1, r2) := by first | (rw [hy189]; with_reducible exact H) | (have H2_ := (Option.bind_some _ _).symm.trans H; rw [hy189]; with_reducible exact H2_) | (have H2_ := (Option.bind_some _ _).symm.trans H; with_reducible exact H2_) | with_reducible exact H | (rw [hy189]; exact H) | exact H
   have Ny189 := aM hy189
   clear hy189
   have HC7 := aM H
   clear H
   go_enter Tryz.func16, Tryz.ntmps16
   go_upto_if 26 with (first | ((with_reducible refine gate_dst (N := 2) rfl ?_); refine box_event ?hg (N := 2) ?hd (cs := #[.string a0_0, .string a0_1, .int .i64 a0_2, .string a0_3, .int .i64 a0_4, .slice A0_5 l0_5.length c0_5]) (t := 30) ?hr ?_; (case hd => rfl); (case hg => rfl); (case hr => first | (go_simp; done) | (go_simp; rfl)); intro gb186 hg w8 hbox hb; have n0_ := aM (below_step (by repeat (first | (with_reducible first | exact HB.out | apply lA | apply lN | apply lD) | exact HB.out)) hb); have n1_ := aM (hbox); have n2_ := aM ((by rw [hg]; exact (below_size (by repeat (first | (with_reducible first | exact HB.out | apply lA | apply lN | apply lD) | exact HB.out))) : w.heap.size ≤ gb186)); have n3_ := n2_; clear HB; have HB := n0_; have BK186 := n1_; have GW186 := n2_; have GE186 := n3_; clear n0_ n1_ n2_ n3_; clear hb hbox hg; obtain ⟨hcz9_0, hcz9_1, hcz9_2, hcz9_3, hcz9_4, hcz9_5, hfz9_0, hfz9_1, hfz9_2, hfz9_3, hfz9_4, hfz9_5⟩ := cz6 BK186.out) | ((with_reducible refine gate_callee (f := 17) rfl ?_); refine goesL_ (some 14) rfl rfl Tryz.func17 (by kernel_rfl) rfl #[.agg #[.string a0_0, .string a0_1, .int .i64 a0_2, .string a0_3, .int .i64 a0_4, .slice A0_5 l0_5.length c0_5], .bool a1] rfl (by (try simp only [List.map_toArray, List.map_cons, List.map_nil]); first | done | rfl | (simp only [List.length_drop, List.length_take]; rfl)) ?_; (with_reducible refine (head_Right.calls k a0_0 a0_1 a0_2 a0_3 a0_4 _ _ l0_5 a1 true _ ?side1 ?side2 A3.out).mono ?_); (case side1 => repeat (first | exact (Kd.C_below HR0_5.out HB.out) | (with_reducible refine Kd.C_alloc ?_ _) | (with_reducible refine Kd.C_drewN ?_ _) | (with_reducible refine Kd.C_drew ?_))); (case side2 => exact HC0_5.out); rintro e w10 ⟨rfl, hb⟩; refine ⟨_, rfl, ?_⟩; have n0_ := aM (blk_below (g := gb186) (o := .cells #[.string a0_0, .string a0_1, .int .i64 a0_2, .string a0_3, .int .i64 a0_4, .slice A0_5 l0_5.length c0_5] 30 (0, 0)) (by (with_reducible repeat (first | refine bN ?_ _ | refine bD ?_ | refine bA ?_ _)); exact BK186.out) hb); have n1_ := aM (below_step (by repeat (first | (with_reducible first | exact HB.out | apply lA | apply lN | apply lD | refine below_set ?_ GE186.out) | exact HB.out)) hb); clear BK186 HB; have BK186 := n0_; have HB := n1_; clear n0_ n1_; (try clear hb); (try clear hb2); (try clear hk); (try clear hi); obtain ⟨hcz11_0, hcz11_1, hcz11_2, hcz11_3, hcz11_4, hcz11_5, hfz11_0, hfz11_1, hfz11_2, hfz11_3, hfz11_4, hfz11_5⟩ := cz6 BK186.out) | ((with_reducible refine gate_callee (f := 29) rfl ?_); refine goesL_ (some 18) rfl rfl Tryz.func29 (by kernel_rfl) rfl #[.int .i64 a0_4, .int .i64 10] rfl (by (try simp only [List.map_toArray, List.map_cons, List.map_nil]); first | done | rfl | (simp only [List.length_drop, List.length_take]; rfl)) ?_; (with_reducible refine (num_Text.calls a0_4 10 t188 _ ?side1 A5.out).mono ?_); (case side1 => exact glob_below HG_.out (by repeat (first | (with_reducible first | exact HB.out | apply lA | apply lN | apply lD | refine below_set ?_ GE186.out) | exact HB.out))); rintro e w12 ⟨rfl, hb⟩; refine ⟨_, rfl, ?_⟩; have n0_ := aM (blk_below (g := gb186) (o := .cells #[.string a0_0, .string a0_1, .int .i64 a0_2, .string a0_3, .int .i64 a0_4, .slice A0_5 l0_5.length c0_5] 30 (0, 0)) (by (with_reducible repeat (first | refine bN ?_ _ | refine bD ?_ | refine bA ?_ _)); exact BK186.out) hb); have n1_ := aM (below_step (by repeat (first | (with_reducible first | exact HB.out | apply lA | apply lN | apply lD | refine below_set ?_ GE186.out) | exact HB.out)) hb); clear BK186 HB; have BK186 := n0_; have HB := n1_; clear n0_ n1_; (try clear hb); (try clear hb2); (try clear hk); (try clear hi); obtain ⟨hcz13_0, hcz13_1, hcz13_2, hcz13_3, hcz13_4, hcz13_5, hfz13_0, hfz13_1, hfz13_2, hfz13_3, hfz13_4, hfz13_5⟩ := cz6 BK186.out) | ((with_reducible refine gate_dst (N := 25) rfl ?_); refine Kd.R_lit Kd.string _ 9 ?hg (N := 25) ?hd (xs := ([a0_0, a0_1, (⟨#[72, 84, 84, 80, 47, 49, 46]⟩ : ByteArray) ++ t188] : List ByteArray)) (inner := [.string a0_0, .string a0_1, .string ((⟨#[72, 84, 84, 80, 47, 49, 46]⟩ : ByteArray) ++ t188)]) (ok := fun _ => True) (okp := fun _ => True) ?hr ?hp (fun _ hk => hk) trivial (Below.refl _ _) (Nat.le_refl _) (by simp) ?_; (case hd => rfl); (case hg => rfl); (case hr => first | (go_simp; done) | (go_simp; rfl)); (case hp => exact (Reps.one (show Kd.M Kd.string _ _ _ a0_0 [.string a0_0] from rfl) (Reps.one (show Kd.M Kd.string _ _ _ a0_1 [.string a0_1] from rfl) (Reps.one (show Kd.M Kd.string _ _ _ ((⟨#[72, 84, 84, 80, 47, 49, 46]⟩ : ByteArray) ++ t188) [.string ((⟨#[72, 84, 84, 80, 47, 49, 46]⟩ : ByteArray) ++ t188)] from rfl) (Reps.none _ _))))); intro v190 w14 ho15 hb hg_ hnew_; clear hg_ hnew_; (first | rw [← Ny189.out] at ho15 | (simp only [Int.reduceToNat] at ho15; rw [← Ny189.out] at ho15)); have n0_ := aM (Kd.R_lower ho15 (below_size (by repeat (first | (with_reducible first | exact HB.out | apply lA | apply lN | apply lD | refine below_set ?_ GE186.out) | exact HB.out)))); have n1_ := aM (blk_below (g := gb186) (o := .cells #[.string a0_0, .string a0_1, .int .i64 a0_2, .string a0_3, .int .i64 a0_4, .slice A0_5 l0_5.length c0_5] 30 (0, 0)) (by (with_reducible repeat (first | refine bN ?_ _ | refine bD ?_ | refine bA ?_ _)); exact BK186.out) hb); have n2_ := aM (below_step (by repeat (first | (with_reducible first | exact HB.out | apply lA | apply lN | apply lD | refine below_set ?_ GE186.out) | exact HB.out)) hb); clear BK186 HB; have HO191 := n0_; have BK186 := n1_; have HB := n2_; clear n0_ n1_ n2_; clear hb ho15))
   (try simp only [Act.put, List.setIfInBounds_toArray, List.set_cons_zero, List.set_cons_succ])
   go_cut [7] (fun v7 wc => ∃ (kq : Nat) (x7_6 : List ByteArray), Aside0 (head_Print.j0 kq x7_6 a0_0 a0_1 a0_2 a0_3 a0_4 l0_5 = some (r1, r2)) ∧ Aside0 (kq ≤ k) ∧ Aside0 (Kd.R Kd.string 9 wc w.heap.size (fun _ => True) v7 x7_6) ∧ Aside0 (wc.heap[gb186]? = some (.cells #[.string a0_0, .string a0_1, .int .i64 a0_2, .string a0_3, .int .i64 a0_4, (.slice A0_5 l0_5.length c0_5)] 30 (0, 0))) ∧ Aside0 (Below w.heap.size w wc))
   case first =>
    have H := HC7.out
    clear HC7
    by_cases c16 : a1 = true
    ·subst c16
     have H1 : ((num_Text.f a0_2 10).bind fun t192 => (head_Print.j0 k (([(⟨#[72, 84, 84, 80, 47, 49, 46]⟩ : ByteArray) ++ t188, t192, a0_3] : List ByteArray)) a0_0 a0_1 a0_2 a0_3 a0_4 l0_5)) = some (r1, r2) := by rw [if_pos rfl] at H; exact H
     clear H
     have H := H1
     clear H1
     replace H := Option.bind_eq_some_iff.mp H
     obtain ⟨t192, A170, H⟩ := H
     replace H : (head_Print.j0 k (([(⟨#[72, 84, 84, 80, 47, 49, 46]⟩ : ByteArray) ++ t188, t192, a0_3] : List ByteArray)) a0_0 a0_1 a0_2 a0_3 a0_4 l0_5) = some (r1, r2) := H
     have A17 := aM A170
     clear A170
     obtain ⟨y193, hy193⟩ : ∃ y_ : List ByteArray, y_ = (([(⟨#[72, 84, 84, 80, 47, 49, 46]⟩ : ByteArray) ++ t188, t192, a0_3] : List ByteArray)) := ⟨_, rfl⟩
     replace H : (head_Print.j0 k y193 a0_0 a0_1 a0_2 a0_3 a0_4 l0_5) = some (r1, r2) := by first | (rw [hy193]; with_reducible exact H) | (have H2_ := (Option.bind_some _ _).symm.trans H; rw [hy193]; with_reducible exact H2_) | (have H2_ := (Option.bind_some _ _).symm.trans H; with_reducible exact H2_) | with_reducible exact H | (rw [hy193]; exact H) | exact H
     have Ny193 := aM hy193
     clear hy193
     have H' := aM H
     clear H
     try go_wp2
     have n0_ := aM (rD HO191.out)
     have n1_ := aM (bD BK186.out)
     have n2_ := aM (lD HB.out)
     clear HO191
     clear BK186
     clear HB
     have HO191 := n0_
     have BK186 := n1_
     have HB := n2_
     clear n0_ n1_ n2_
     refine start_ (n := 8) (S := fun w' => w'.cell? ⟨gb186, 0, none⟩ = some (.string a0_0) ∧ w'.cell? ⟨gb186, 1, none⟩ = some (.string a0_1) ∧ w'.cell? ⟨gb186, 2, none⟩ = some (.int .i64 a0_2) ∧ w'.cell? ⟨gb186, 3, none⟩ = some (.string a0_3) ∧ w'.cell? ⟨gb186, 4, none⟩ = some (.int .i64 a0_4) ∧ w'.cell? ⟨gb186, 5, none⟩ = some (.slice A0_5 l0_5.length c0_5)) (ds := []) #[false, false, false, false, false, false, false, false] (by kernel_rfl) rfl rfl ⟨(blk_cell BK186.out 0).trans rfl, (blk_cell BK186.out 1).trans rfl, (blk_cell BK186.out 2).trans rfl, (blk_cell BK186.out 3).trans rfl, (blk_cell BK186.out 4).trans rfl, (blk_cell BK186.out 5).trans rfl⟩ (fun hHeld => ?_); refine with_tabW head_Print.tab6 head_Print.bits6 (fun HT_ HW_ => ?_)
     generalize w14.drew = w18 at HO191 BK186 HB hHeld ⊢
     refine pure_ (i := 0) (N := some 27) (v := ?_) (a' := ?_) #[true, false, false, false, false, false, false, false] rfl rfl (any_of HT_.out (by kernel_rfl)) (fun _ _ _ h => h) (Or.inl ⟨by rfl, ?_⟩) ?_ ?_
     rotate_left
     ·intro w'
      go_simp
      with_reducible rfl
     rotate_left
     ·simp only [Act.put, List.setIfInBounds_toArray, List.set_cons_zero, List.set_cons_succ, i64_w, i32_w]
      rfl
     refine pure_ (i := 1) (N := some 28) (v := ?_) (a' := ?_) #[true, true, false, false, false, false, false, false] rfl rfl (any_of HT_.out (by kernel_rfl)) (fun _ _ _ h => h) (Or.inl ⟨by rfl, ?_⟩) ?_ ?_
     rotate_left
     ·intro w'
      go_simp
      with_reducible rfl
     rotate_left
     ·simp only [Act.put, List.setIfInBounds_toArray, List.set_cons_zero, List.set_cons_succ, i64_w, i32_w]
      rfl
     refine pure_ (i := 4) (N := some 31) (v := ?_) (a' := ?_) #[true, true, false, false, true, false, false, false] rfl rfl (any_of HT_.out (by kernel_rfl)) (fun _ _ _ h => h) (Or.inl ⟨by rfl, ?_⟩) ?_ ?_
     rotate_left
     ·intro w'
      go_simp
      with_reducible rfl
     rotate_left
     ·simp only [Act.put, List.setIfInBounds_toArray, List.set_cons_zero, List.set_cons_succ, i64_w, i32_w]
      rfl
     refine take_ (i := 2) (N := some 29) (v := ?_) (a' := ?_) #[true, true, true, false, true, false, false, false] rfl rfl (take_ofW HT_.out HW_.out (by kernel_rfl)) (fun _ _ _ h => h) (Or.inl ⟨by rfl, ?_⟩) hHeld ?_ ?_
     rotate_left
     ·rintro w' ⟨s0, s1, s2, s3, s4, s5⟩
      go_simp
      with_reducible rfl
     rotate_left
     ·simp only [Act.put, List.setIfInBounds_toArray, List.set_cons_zero, List.set_cons_succ, i64_w, i32_w]
      rfl
     refine take_ (i := 5) (N := some 32) (v := ?_) (a' := ?_) #[true, true, true, false, true, true, false, false] rfl rfl (take_ofW HT_.out HW_.out (by kernel_rfl)) (fun _ _ _ h => h) (Or.inl ⟨by rfl, ?_⟩) hHeld ?_ ?_
     rotate_left
     ·rintro w' ⟨s0, s1, s2, s3, s4, s5⟩
      go_simp
      with_reducible rfl
     rotate_left
     ·simp only [Act.put, List.setIfInBounds_toArray, List.set_cons_zero, List.set_cons_succ, i64_w, i32_w]
      rfl
     refine one_ (i := 3) (N := some 30) #[true, true, true, true, true, true, false, false] rfl rfl (one_of HT_.out (by kernel_rfl)) (by decide) (fun K hK => ?_)
     refine goes_ Tryz.func29 (by kernel_rfl) rfl #[.int .i64 a0_2, .int .i64 10] (by rfl) rfl rfl (by (try simp only [List.map_toArray, List.map_cons, List.map_nil]); first | done | rfl | (simp only [List.length_drop, List.length_take]; rfl)) ?_
     with_reducible refine (num_Text.calls a0_2 10 t192 _ ?side1 A17.out).mono ?_
     (case side1 => exact glob_below HG_.out (by repeat (first | (with_reducible first | exact HB.out | apply lA | apply lN | apply lD | refine below_set ?_ GE186.out) | exact HB.out)))
     rintro e w19 ⟨rfl, hb⟩
     refine ⟨_, rfl, ?_⟩
     have n0_ := aM (Kd.R_below (by (with_reducible repeat (first | apply rA | apply rN | apply rD)); exact HO191.out) hb)
     have n1_ := aM (blk_below (g := gb186) (o := .cells #[.string a0_0, .string a0_1, .int .i64 a0_2, .string a0_3, .int .i64 a0_4, .slice A0_5 l0_5.length c0_5] 30 (0, 0)) (by (with_reducible repeat (first | refine bN ?_ _ | refine bD ?_ | refine bA ?_ _)); exact BK186.out) hb)
     have n2_ := aM (below_step (by repeat (first | (with_reducible first | exact HB.out | apply lA | apply lN | apply lD | refine below_set ?_ GE186.out) | exact HB.out)) hb)
     clear HO191
     clear BK186
     clear HB
     have HO191 := n0_
     have BK186 := n1_
     have HB := n2_
     clear n0_ n1_ n2_
     (try clear hb)
     (try clear hb2)
     (try clear hk)
     (try clear hi)
     refine hK.out _ _ ⟨(blk_cell BK186.out 0).trans rfl, (blk_cell BK186.out 1).trans rfl, (blk_cell BK186.out 2).trans rfl, (blk_cell BK186.out 3).trans rfl, (blk_cell BK186.out 4).trans rfl, (blk_cell BK186.out 5).trans rfl⟩ (fun hHeld => ?_)
     clear hK K
     refine norm_ (a' := ?_) ?_ ?_
     rotate_left
     ·show Act.put _ (some 30) _ = _
      simp only [Act.put, List.setIfInBounds_toArray, List.set_cons_zero, List.set_cons_succ, i64_w, i32_w]
      rfl
     refine one_ (i := 6) (N := some 33) #[true, true, true, true, true, true, true, false] rfl rfl (one_of HT_.out (by kernel_rfl)) (by decide) (fun K hK => ?_)
     refine Kd.R_lit_step Kd.string _ 9 ?hg (N := 33) ?hd (xs := ([(⟨#[72, 84, 84, 80, 47, 49, 46]⟩ : ByteArray) ++ t188, t192, a0_3] : List ByteArray)) (inner := [.string ((⟨#[72, 84, 84, 80, 47, 49, 46]⟩ : ByteArray) ++ t188), .string t192, .string a0_3]) (ok := fun _ => True) (okp := fun _ => True) ?hr ?hp (fun _ hk => hk) trivial (Below.refl _ _) (Nat.le_refl _) (by simp) ?_; (case hd => rfl); (case hg => rfl); (case hr => first | (go_simp; done) | (go_simp; rfl)); (case hp => exact (Reps.one (show Kd.M Kd.string _ _ _ ((⟨#[72, 84, 84, 80, 47, 49, 46]⟩ : ByteArray) ++ t188) [.string ((⟨#[72, 84, 84, 80, 47, 49, 46]⟩ : ByteArray) ++ t188)] from rfl) (Reps.one (show Kd.M Kd.string _ _ _ t192 [.string t192] from rfl) (Reps.one (show Kd.M Kd.string _ _ _ a0_3 [.string a0_3] from rfl) (Reps.none _ _)))))
     intro v194 w20 ho21 hb hg_ hnew_
     clear hg_ hnew_
     (first | rw [← Ny193.out] at ho21 | (simp only [Int.reduceToNat] at ho21; rw [← Ny193.out] at ho21))
     have n0_ := aM (Kd.R_elder' (by (with_reducible repeat (first | apply rA | apply rN | apply rD)); exact HO191.out) (Kd.R_base ho21) hb)
     have n1_ := aM (Kd.R_lower (Kd.R_new' ho21 (Kd.R_lt (by (with_reducible repeat (first | apply rA | apply rN | apply rD)); exact HO191.out))) (below_size (by repeat (first | (with_reducible first | exact HB.out | apply lA | apply lN | apply lD | refine below_set ?_ GE186.out) | exact HB.out))))
     have n2_ := aM (blk_below (g := gb186) (o := .cells #[.string a0_0, .string a0_1, .int .i64 a0_2, .string a0_3, .int .i64 a0_4, .slice A0_5 l0_5.length c0_5] 30 (0, 0)) (by (with_reducible repeat (first | refine bN ?_ _ | refine bD ?_ | refine bA ?_ _)); exact BK186.out) hb)
     have n3_ := aM (below_step (by repeat (first | (with_reducible first | exact HB.out | apply lA | apply lN | apply lD | refine below_set ?_ GE186.out) | exact HB.out)) hb)
     clear HO191
     clear BK186
     clear HB
     have HO191 := n0_
     have HO195 := n1_
     have BK186 := n2_
     have HB := n3_
     clear n0_ n1_ n2_ n3_
     clear hb ho21
     refine hK.out _ _ ⟨(blk_cell BK186.out 0).trans rfl, (blk_cell BK186.out 1).trans rfl, (blk_cell BK186.out 2).trans rfl, (blk_cell BK186.out 3).trans rfl, (blk_cell BK186.out 4).trans rfl, (blk_cell BK186.out 5).trans rfl⟩ (fun hHeld => ?_)
     clear hK K
     refine norm_ (a' := ?_) ?_ ?_
     rotate_left
     ·show Act.put _ (some 33) _ = _
      simp only [Act.put, List.setIfInBounds_toArray, List.set_cons_zero, List.set_cons_succ, i64_w, i32_w]
      rfl
     refine pure_ (i := 7) (N := some 7) (v := ?_) (a' := ?_) #[true, true, true, true, true, true, true, true] rfl rfl (any_of HT_.out (by kernel_rfl)) (fun _ _ _ h => h) (Or.inl ⟨by rfl, ?_⟩) ?_ ?_
     rotate_left
     ·intro w'
      go_simp
      with_reducible rfl
     rotate_left
     ·simp only [Act.put, List.setIfInBounds_toArray, List.set_cons_zero, List.set_cons_succ, i64_w, i32_w]
      rfl
     refine done_ (done_of HT_.out (by kernel_rfl)) ?_
     try go_wp2
     go_meet
     case rel => exact ⟨_, (y193), H', ⟨by first | omega | exact Nat.le_refl _⟩, ⟨by (with_reducible repeat (first | apply rA | apply rN | apply rD)); exact Kd.R_mono HO195.out (fun _ hk => trivial)⟩, ⟨by (with_reducible repeat (first | refine bN ?_ _ | refine bD ?_ | refine bA ?_ _)); exact BK186.out⟩, ⟨by repeat (first | (with_reducible first | exact HB.out | apply lA | apply lN | apply lD | refine below_set ?_ GE186.out) | exact HB.out)⟩⟩
    ·replace c16 := Bool.eq_false_iff.mpr c16
     subst c16
     have H1 : (head_Print.j0 k y189 a0_0 a0_1 a0_2 a0_3 a0_4 l0_5) = some (r1, r2) := by rw [if_neg (show ¬ (false = true) by decide)] at H; exact H
     clear H
     have H := H1
     clear H1
     have H' := aM H
     clear H
     go_wp2
     go_meet
     case rel => exact ⟨_, (y189), H', ⟨by first | omega | exact Nat.le_refl _⟩, ⟨by (with_reducible repeat (first | apply rA | apply rN | apply rD)); exact HO191.out⟩, ⟨by (with_reducible repeat (first | refine bN ?_ _ | refine bD ?_ | refine bA ?_ _)); exact BK186.out⟩, ⟨by repeat (first | (with_reducible first | exact HB.out | apply lA | apply lN | apply lD | refine below_set ?_ GE186.out) | exact HB.out)⟩⟩
   case rest =>
    clear HC7
    try clear c1
    try clear c2
    try clear p2
    try clear c4
    try clear c6
    try clear c6b0
    try clear c6b1
    try clear c6b2
    try clear c16
    try clear c17
    try clear hcz11_0
    try clear hcz11_1
    try clear hcz11_2
    try clear hcz11_3
    try clear hcz11_4
    try clear hcz11_5
    try clear hcz13_0
    try clear hcz13_1
    try clear hcz13_2
    try clear hcz13_3
    try clear hcz13_4
    try clear hcz13_5
    try clear hcz9_0
    try clear hcz9_1
    try clear hcz9_2
    try clear hcz9_3
    try clear hcz9_4
    try clear hcz9_5
    try clear hfz11_0
    try clear hfz11_1
    try clear hfz11_2
    try clear hfz11_3
    try clear hfz11_4
    try clear hfz11_5
    try clear hfz13_0
    try clear hfz13_1
    try clear hfz13_2
    try clear hfz13_3
    try clear hfz13_4
    try clear hfz13_5
    try clear hfz9_0
    try clear hfz9_1
    try clear hfz9_2
    try clear hfz9_3
    try clear hfz9_4
    try clear hfz9_5
    obtain ⟨kq, x7_6, HA, HJ6, HO_7, BK186, HB⟩ := hcut
    cases kq with
    | zero => exact absurd HA.out (by simp [head_Print.j0])
    | succ kj6 =>
     have H := HA.out
     clear HA
     simp only [head_Print.j0] at H
     replace H := Option.bind_eq_some_iff.mp H
     obtain ⟨t196, A220, H⟩ := H
     replace H : (head_Print.l0 kj6 (([t196] : List ByteArray)) l0_5 (l0_5.length : Int) 0) = some (r1, r2) := H
     have A22 := aM A220
     clear A220
     obtain ⟨y197, hy197⟩ : ∃ y_ : List ByteArray, y_ = (([t196] : List ByteArray)) := ⟨_, rfl⟩
     replace H : (head_Print.l0 kj6 y197 l0_5 (l0_5.length : Int) 0) = some (r1, r2) := by first | (rw [hy197]; with_reducible exact H) | (have H2_ := (Option.bind_some _ _).symm.trans H; rw [hy197]; with_reducible exact H2_) | (have H2_ := (Option.bind_some _ _).symm.trans H; with_reducible exact H2_) | with_reducible exact H | (rw [hy197]; exact H) | exact H
     have Ny197 := aM hy197
     clear hy197
     have H' := aM H
     clear H
     obtain ⟨Ao23, co23, eo23⟩ := Kd.R_slice HO_7.out
     subst eo23
     go_wp2_with (first | ((with_reducible refine gate_callee (f := 30) rfl ?_); refine goesL_ (some 35) rfl rfl Tryz.func30 (by kernel_rfl) rfl #[.slice Ao23 x7_6.length co23, .string (⟨#[32]⟩ : ByteArray)] rfl (by (try simp only [List.map_toArray, List.map_cons, List.map_nil]); first | done | rfl | (simp only [List.length_drop, List.length_take]; rfl)) ?_; (with_reducible refine (strings_Join.calls _ _ x7_6 (⟨#[32]⟩ : ByteArray) t196 _ ?side1 ?side2 A22.out).mono ?_); (case side1 => repeat (first | exact (Kd.R_reads' HO_7.out).2.2 | (with_reducible refine Kd.C_alloc ?_ _) | (with_reducible refine Kd.C_drewN ?_ _) | (with_reducible refine Kd.C_drew ?_))); (case side2 => exact (Kd.R_reads' HO_7.out).2.1); rintro e w24 ⟨rfl, hb⟩; refine ⟨_, rfl, ?_⟩; have n0_ := aM (Kd.R_below (by (with_reducible repeat (first | apply rA | apply rN | apply rD)); exact HO_7.out) hb); have n1_ := aM (blk_below (g := gb186) (o := .cells #[.string a0_0, .string a0_1, .int .i64 a0_2, .string a0_3, .int .i64 a0_4, .slice A0_5 l0_5.length c0_5] 30 (0, 0)) (by (with_reducible repeat (first | refine bN ?_ _ | refine bD ?_ | refine bA ?_ _)); exact BK186.out) hb); have n2_ := aM (below_step (by repeat (first | (with_reducible first | exact HB.out | apply lA | apply lN | apply lD | refine below_set ?_ GE186.out) | exact HB.out)) hb); clear HO_7 BK186 HB; have HO_7 := n0_; have BK186 := n1_; have HB := n2_; clear n0_ n1_ n2_; (try clear hb); (try clear hb2); (try clear hk); (try clear hi)) | ((with_reducible refine gate_dst (N := 36) rfl ?_); refine Kd.R_lit Kd.string _ 9 ?hg (N := 36) ?hd (xs := ([t196] : List ByteArray)) (inner := [.string t196]) (ok := fun _ => True) (okp := fun _ => True) ?hr ?hp (fun _ hk => hk) trivial (Below.refl _ _) (Nat.le_refl _) (by simp) ?_; (case hd => rfl); (case hg => rfl); (case hr => first | (go_simp; done) | (go_simp; rfl)); (case hp => exact (Reps.one (show Kd.M Kd.string _ _ _ t196 [.string t196] from rfl) (Reps.none _ _))); intro v198 w25 ho26 hb hg_ hnew_; clear hg_ hnew_; (first | rw [← Ny197.out] at ho26 | (simp only [Int.reduceToNat] at ho26; rw [← Ny197.out] at ho26)); have n0_ := aM (Kd.R_elder' (by (with_reducible repeat (first | apply rA | apply rN | apply rD)); exact HO_7.out) (Kd.R_base ho26) hb); have n1_ := aM (Kd.R_lower (Kd.R_new' ho26 (Kd.R_lt (by (with_reducible repeat (first | apply rA | apply rN | apply rD)); exact HO_7.out))) (below_size (by repeat (first | (with_reducible first | exact HB.out | apply lA | apply lN | apply lD | refine below_set ?_ GE186.out) | exact HB.out)))); have n2_ := aM (blk_below (g := gb186) (o := .cells #[.string a0_0, .string a0_1, .int .i64 a0_2, .string a0_3, .int .i64 a0_4, .slice A0_5 l0_5.length c0_5] 30 (0, 0)) (by (with_reducible repeat (first | refine bN ?_ _ | refine bD ?_ | refine bA ?_ _)); exact BK186.out) hb); have n3_ := aM (below_step (by repeat (first | (with_reducible first | exact HB.out | apply lA | apply lN | apply lD | refine below_set ?_ GE186.out) | exact HB.out)) hb); clear HO_7 BK186 HB; have HO_7 := n0_; have HO199 := n1_; have BK186 := n2_; have HB := n3_; clear n0_ n1_ n2_ n3_; clear hb ho26; obtain ⟨hcz27_0, hcz27_1, hcz27_2, hcz27_3, hcz27_4, hcz27_5, hfz27_0, hfz27_1, hfz27_2, hfz27_3, hfz27_4, hfz27_5⟩ := cz6 BK186.out))
     go_loopg [8, 40] kj6 (fun kq v8 v40 w' => ∃ (x8_2 : List ByteArray) (x40_2 : Int), v40 = .int .i64 x40_2 ∧ Aside0 (head_Print.l0 kq x8_2 l0_5 (l0_5.length : Int) x40_2 = some (r1, r2)) ∧ Aside0 (kq ≤ kj6) ∧ Aside0 (Kd.R Kd.string 9 w' w.heap.size (fun _ => True) v8 x8_2) ∧ Aside0 (w'.heap[gb186]? = some (.cells #[.string a0_0, .string a0_1, .int .i64 a0_2, .string a0_3, .int .i64 a0_4, (.slice A0_5 l0_5.length c0_5)] 30 (0, 0))) ∧ Aside0 (Below w.heap.size w w'))
     case atStart => exact ⟨(y197), (0), (by first | rfl | (simp; done) | (simp [*]; done)), H', ⟨Nat.le_refl _⟩, ⟨by (with_reducible repeat (first | apply rA | apply rN | apply rD)); exact Kd.R_mono HO199.out (fun _ hk => trivial)⟩, ⟨by (with_reducible repeat (first | refine bN ?_ _ | refine bD ?_ | refine bA ?_ _)); exact BK186.out⟩, ⟨by repeat (first | (with_reducible first | exact HB.out | apply lA | apply lN | apply lD | refine below_set ?_ GE186.out) | exact HB.out)⟩⟩
     case round =>
      clear H'
      try clear c1
      try clear c2
      try clear p2
      try clear c3
      try clear c4
      try clear c6
      try clear c6b0
      try clear c6b1
      try clear c6b2
      try clear c16
      try clear c17
      try clear hcz11_0
      try clear hcz11_1
      try clear hcz11_2
      try clear hcz11_3
      try clear hcz11_4
      try clear hcz11_5
      try clear hcz13_0
      try clear hcz13_1
      try clear hcz13_2
      try clear hcz13_3
      try clear hcz13_4
      try clear hcz13_5
      try clear hcz27_0
      try clear hcz27_1
      try clear hcz27_2
      try clear hcz27_3
      try clear hcz27_4
      try clear hcz27_5
      try clear hcz9_0
      try clear hcz9_1
      try clear hcz9_2
      try clear hcz9_3
      try clear hcz9_4
      try clear hcz9_5
      try clear hfz11_0
      try clear hfz11_1
      try clear hfz11_2
      try clear hfz11_3
      try clear hfz11_4
      try clear hfz11_5
      try clear hfz13_0
      try clear hfz13_1
      try clear hfz13_2
      try clear hfz13_3
      try clear hfz13_4
      try clear hfz13_5
      try clear hfz27_0
      try clear hfz27_1
      try clear hfz27_2
      try clear hfz27_3
      try clear hfz27_4
      try clear hfz27_5
      try clear hfz9_0
      try clear hfz9_1
      try clear hfz9_2
      try clear hfz9_3
      try clear hfz9_4
      try clear hfz9_5
      try clear p2
      obtain ⟨x8_2, x40_2, rfl, HA, HK2, HO_8, BK186, HB⟩ := hrel
      cases gk with
      | zero => exact absurd HA.out (by simp [head_Print.l0])
      | succ k2 =>
       have H := HA.out
       clear HA
       simp only [head_Print.l0] at H
       by_cases c28 : x40_2 < (l0_5.length : Int)
       ·rw [if_pos c28] at H
        have c28b0 : decide (x40_2 < (l0_5.length : Int)) = true := decide_eq_true c28
        clear c28
        by_cases c29 : 0 ≤ x40_2
        ·rw [if_pos c29] at H
         have c29b0 : decide (0 ≤ x40_2) = true := decide_eq_true c29
         clear c29
         by_cases c30 : x40_2 < (l0_5.length : Int)
         ·rw [if_pos c30] at H
          have c30b0 : decide (x40_2 < (l0_5.length : Int)) = true := decide_eq_true c30
          clear c30
          by_cases c31 : ((rd_T37 l0_5 x40_2).f0).size + 2 ≤ 9223372036854775807
          ·rw [if_pos c31] at H
           have c31b0 := eq_true c31
           have c31b1 : decide (((rd_T37 l0_5 x40_2).f0).size + 2 ≤ 9223372036854775807) = true := decide_eq_true c31
           try have c31b2 : (9223372036854775807 < ((rd_T37 l0_5 x40_2).f0).size + 2) = False := eq_false (Nat.not_lt.2 c31)
           by_cases c32 : (((rd_T37 l0_5 x40_2).f0) ++ (⟨#[58, 32]⟩ : ByteArray)).size + ((rd_T37 l0_5 x40_2).f1).size ≤ 9223372036854775807
           ·rw [if_pos c32] at H
            have c32b0 := eq_true c32
            have c32b1 : decide ((((rd_T37 l0_5 x40_2).f0) ++ (⟨#[58, 32]⟩ : ByteArray)).size + ((rd_T37 l0_5 x40_2).f1).size ≤ 9223372036854775807) = true := decide_eq_true c32
            try have c32b2 : (9223372036854775807 < (((rd_T37 l0_5 x40_2).f0) ++ (⟨#[58, 32]⟩ : ByteArray)).size + ((rd_T37 l0_5 x40_2).f1).size) = False := eq_false (Nat.not_lt.2 c32)
            try have c32b3 : (9223372036854775807 < ((rd_T37 l0_5 x40_2).f0).size + 2 + ((rd_T37 l0_5 x40_2).f1).size) = False := eq_false (Nat.not_lt.2 (by have z_ := c32; rw [ByteArray.size_append] at z_; exact z_))
            by_cases c33 : x8_2.length < 8796093022208
            ·rw [if_pos c33] at H
             have LMc33 := aM c33
             clear c33
             obtain ⟨y202, hy202⟩ : ∃ y_ : List ByteArray, y_ = (x8_2 ++ [(((rd_T37 l0_5 x40_2).f0) ++ (⟨#[58, 32]⟩ : ByteArray)) ++ ((rd_T37 l0_5 x40_2).f1)]) := ⟨_, rfl⟩
             replace H : (head_Print.l0 k2 y202 l0_5 (l0_5.length : Int) (wrap64 (x40_2 + 1))) = some (r1, r2) := by first | (rw [hy202]; with_reducible exact H) | (have H2_ := (Option.bind_some _ _).symm.trans H; rw [hy202]; with_reducible exact H2_) | (have H2_ := (Option.bind_some _ _).symm.trans H; with_reducible exact H2_) | with_reducible exact H | (rw [hy202]; exact H) | exact H
             have Ny202 := aM hy202
             clear hy202
             have H' := aM H
             clear H
             have p200 : 0 ≤ (x40_2 : Int) := of_decide_eq_true (by first | (with_reducible assumption) | assumption)
             have q200 : x40_2 < (l0_5.length : Int) := of_decide_eq_true (by first | (with_reducible assumption) | assumption)
             obtain ⟨ad200, e200, hx200_0, hx200_1⟩ := at_T37 HR0_5.out x40_2 p200 q200
             cases e200
             replace hx200_0 := (HB.out.cell (World.block_lt_of_cell? w _ hx200_0)).trans hx200_0
             replace hx200_1 := (HB.out.cell (World.block_lt_of_cell? w _ hx200_1)).trans hx200_1
             replace p200 := eq_true p200
             replace q200 := eq_true q200
             go_wp2_with (first | ((with_reducible refine gate_dst (N := 10) rfl ?_); refine box_event ?hg (N := 10) ?hd (cs := #[.string (⟨#[]⟩ : ByteArray), .string (⟨#[]⟩ : ByteArray)]) (t := 37) ?hr ?_; (case hd => rfl); (case hg => rfl); (case hr => first | (go_simp; done) | (go_simp; rfl)); intro gb201 hg w34 hbox hb; have n0_ := aM (Kd.R_below (by (with_reducible repeat (first | apply rA | apply rN | apply rD)); exact HO_8.out) hb); have n1_ := aM (blk_below (g := gb186) (o := .cells #[.string a0_0, .string a0_1, .int .i64 a0_2, .string a0_3, .int .i64 a0_4, .slice (some ad200) l0_5.length c0_5] 30 (0, 0)) (by (with_reducible repeat (first | refine bN ?_ _ | refine bD ?_ | refine bA ?_ _)); exact BK186.out) hb); have n2_ := aM (below_step (by repeat (first | (with_reducible first | exact HB.out | apply lA | apply lN | apply lD | refine below_set ?_ GE186.out) | exact HB.out)) hb); have n3_ := aM (hbox); have n4_ := aM ((by rw [hg]; exact (below_size (by repeat (first | (with_reducible first | exact HB.out | apply lA | apply lN | apply lD | refine below_set ?_ GE186.out) | exact HB.out))) : w.heap.size ≤ gb201)); have n5_ := n4_; have n6_ := aM ((by rw [hg]; exact Nat.ne_of_lt (blk_lt (by (with_reducible repeat (first | refine bN ?_ _ | refine bD ?_ | refine bA ?_ _)); exact BK186.out)) : gb186 ≠ gb201)); have n7_ := aM (n6_.out.symm); clear HO_8 BK186 HB; have HO_8 := n0_; have BK186 := n1_; have HB := n2_; have BK201 := n3_; have GW201 := n4_; have GE201 := n5_; have NB186_201 := n6_; have NB201_186 := n7_; clear n0_ n1_ n2_ n3_ n4_ n5_ n6_ n7_; clear hb hbox hg; have hnb35 := NB201_186.out; have hnc35 := NB186_201.out; obtain ⟨hcz36_0, hcz36_1, hfz36_0, hfz36_1⟩ := cz2 BK201.out) | ((with_reducible refine gate_builtin (b := .append) (xs := #[.tmp 44, .tmp 51]) rfl ?_); at_builtin; refine Kd.R_append Kd.string (w0 := w) w.heap.size rfl (.tmp 44) (.tmp 51) 25 9 (.string ⟨#[]⟩) 16 rfl Tryz.underlying25 info9 rfl (by decide) (by omega) u8 x8_2 ((((rd_T37 l0_5 x40_2).f0) ++ (⟨#[58, 32]⟩ : ByteArray)) ++ ((rd_T37 l0_5 x40_2).f1)) [.string ((((rd_T37 l0_5 x40_2).f0) ++ (⟨#[58, 32]⟩ : ByteArray)) ++ ((rd_T37 l0_5 x40_2).f1))] (fun _ => True) (fun _ => False) rfl (by first | (go_simp; done) | (go_simp; rfl)) ?aP (fun _ hk => hk.elim) ?aF ?aO ?aB ?aS ?aL ?_; (case aP => exact rfl); (case aB => exact (by repeat (first | (with_reducible first | exact HB.out | apply lA | apply lN | apply lD | refine below_set ?_ GE186.out | refine below_set ?_ GE201.out) | exact HB.out))); (case aF => exact (fun _ _ => trivial)); (case aO => exact (by (with_reducible repeat (first | apply rA | apply rN | apply rD)); exact Kd.R_mono (Kd.R_far (p := ⟨gb201, 1, none⟩) (Kd.R_far (p := ⟨gb201, 0, none⟩) (Kd.R_types HO_8.out BK201.out (by decide)) (fun _ hk => hk.2) (.string ((rd_T37 l0_5 x40_2).f0))) (fun _ hk => hk.2) (.string ((rd_T37 l0_5 x40_2).f1))) (fun _ hk => trivial))); (case aS => exact (below_size (by repeat (first | (with_reducible first | exact HB.out | apply lA | apply lN | apply lD | refine below_set ?_ GE186.out | refine below_set ?_ GE201.out) | exact HB.out)))); (case aL => have := LMc33.out; omega); intro v203 w37 ho hb hg hat; rw [← Ny202.out] at ho; have n0_ := aM (blk_grown (g := gb186) (o := .cells #[.string a0_0, .string a0_1, .int .i64 a0_2, .string a0_3, .int .i64 a0_4, .slice (some ad200) l0_5.length c0_5] 30 (0, 0)) (by (repeat (first | (with_reducible first | refine bN ?_ _ | refine bD ?_ | refine bA ?_ _) | refine blk_far ?_ NB186_201.out _)); exact BK186.out) hg (Kd.R_ne HO_8.out BK186.out (by decide))); have n1_ := aM (blk_grown (g := gb201) (o := .cells #[.string ((rd_T37 l0_5 x40_2).f0), .string ((rd_T37 l0_5 x40_2).f1)] 37 (0, 0)) (by (repeat (first | (with_reducible first | refine bN ?_ _ | refine bD ?_ | refine bA ?_ _ | apply p2_1 | apply p2_0))); exact BK201.out) hg (Kd.R_ne HO_8.out BK201.out (by decide))); have n2_ := aM (hb); have n3_ := aM (ho); clear BK186 BK201 HB HO_8; have BK186 := n0_; have BK201 := n1_; have HB := n2_; have HO204 := n3_; clear n0_ n1_ n2_ n3_; clear ho hb hg hat))
             go_roundg k2
             case measure => have := HJ6.out; have := HK2.out; omega
             case rel => exact ⟨(y202), (wrap64 (x40_2 + 1)), (by first | rfl | (simp; done) | (simp [*]; done)), H', ⟨by have := HJ6.out; have := HK2.out; omega⟩, ⟨by (with_reducible repeat (first | apply rA | apply rN | apply rD)); exact HO204.out⟩, ⟨by (with_reducible repeat (first | refine bN ?_ _ | refine bD ?_ | refine bA ?_ _)); exact BK186.out⟩, ⟨by repeat (first | (with_reducible first | exact HB.out | apply lA | apply lN | apply lD | refine below_set ?_ GE186.out | refine below_set ?_ GE201.out) | exact HB.out)⟩⟩
            ·rw [if_neg c33] at H
             exact absurd H (by simp)
           ·rw [if_neg c32] at H
            exact absurd H (by simp)
          ·rw [if_neg c31] at H
           exact absurd H (by simp)
         ·rw [if_neg c30] at H
          exact absurd H (by simp)
        ·rw [if_neg c29] at H
         exact absurd H (by simp)
       ·rw [if_neg c28] at H
        have c28b0 : decide (x40_2 < (l0_5.length : Int)) = false := decide_eq_false c28
        clear c28
        replace H := Option.bind_eq_some_iff.mp H
        obtain ⟨t205, A380, H⟩ := H
        replace H : (if (t205.size : Int) > 2000 then (some ((⟨#[]⟩ : ByteArray), 2)) else (if t205.size + 2 ≤ 9223372036854775807 then (if (t205 ++ (⟨#[13, 10]⟩ : ByteArray)).size + 2 ≤ 9223372036854775807 then (some ((t205 ++ (⟨#[13, 10]⟩ : ByteArray)) ++ (⟨#[13, 10]⟩ : ByteArray), 0)) else (none)) else (none))) = some (r1, r2) := H
        have A38 := aM A380
        clear A380
        by_cases c39 : (t205.size : Int) > 2000
        ·rw [if_pos c39] at H
         have c39b0 : decide (2000 < (t205.size : Int)) = true := decide_eq_true c39
         have c39b1 : decide (2000 < t205.size) = true := decide_eq_true (by omega)
         clear c39
         simp only [Option.some.injEq, Prod.mk.injEq] at H
         obtain ⟨rfl, rfl⟩ := H
         obtain ⟨Ao40, co40, eo40⟩ := Kd.R_slice HO_8.out
         subst eo40
         go_wp2_with (first | ((with_reducible refine gate_callee (f := 30) rfl ?_); refine goesL_ (some 55) rfl rfl Tryz.func30 (by kernel_rfl) rfl #[.slice Ao40 x8_2.length co40, .string (⟨#[13, 10]⟩ : ByteArray)] rfl (by (try simp only [List.map_toArray, List.map_cons, List.map_nil]); first | done | rfl | (simp only [List.length_drop, List.length_take]; rfl)) ?_; (with_reducible refine (strings_Join.calls _ _ x8_2 (⟨#[13, 10]⟩ : ByteArray) t205 _ ?side1 ?side2 A38.out).mono ?_); (case side1 => repeat (first | exact (Kd.R_reads' HO_8.out).2.2 | (with_reducible refine Kd.C_alloc ?_ _) | (with_reducible refine Kd.C_drewN ?_ _) | (with_reducible refine Kd.C_drew ?_))); (case side2 => exact (Kd.R_reads' HO_8.out).2.1); rintro e w41 ⟨rfl, hb⟩; refine ⟨_, rfl, ?_⟩; have n0_ := aM (Kd.R_below (by (with_reducible repeat (first | apply rA | apply rN | apply rD)); exact HO_8.out) hb); have n1_ := aM (blk_below (g := gb186) (o := .cells #[.string a0_0, .string a0_1, .int .i64 a0_2, .string a0_3, .int .i64 a0_4, .slice A0_5 l0_5.length c0_5] 30 (0, 0)) (by (with_reducible repeat (first | refine bN ?_ _ | refine bD ?_ | refine bA ?_ _)); exact BK186.out) hb); have n2_ := aM (below_step (by repeat (first | (with_reducible first | exact HB.out | apply lA | apply lN | apply lD | refine below_set ?_ GE186.out) | exact HB.out)) hb); clear HO_8 BK186 HB; have HO_8 := n0_; have BK186 := n1_; have HB := n2_; clear n0_ n1_ n2_; (try clear hb); (try clear hb2); (try clear hk); (try clear hi)))
         go_ret2
         exact ⟨by first | rfl | (simp [errW_none, errW_some] <;> rfl) | (simp [*, errW_none, errW_some] <;> rfl), by repeat (first | (with_reducible first | exact HB.out | apply lA | apply lN | apply lD | refine below_set ?_ GE186.out) | exact HB.out)⟩
        ·rw [if_neg c39] at H
         have c39b0 : decide (2000 < (t205.size : Int)) = false := decide_eq_false c39
         have c39b1 : decide (2000 < t205.size) = false := decide_eq_false (by omega)
         clear c39
         by_cases c42 : t205.size + 2 ≤ 9223372036854775807
         ·rw [if_pos c42] at H
          have c42b0 := eq_true c42
          have c42b1 : decide (t205.size + 2 ≤ 9223372036854775807) = true := decide_eq_true c42
          try have c42b2 : (9223372036854775807 < t205.size + 2) = False := eq_false (Nat.not_lt.2 c42)
          by_cases c43 : (t205 ++ (⟨#[13, 10]⟩ : ByteArray)).size + 2 ≤ 9223372036854775807
          ·rw [if_pos c43] at H
           have c43b0 := eq_true c43
           have c43b1 : decide ((t205 ++ (⟨#[13, 10]⟩ : ByteArray)).size + 2 ≤ 9223372036854775807) = true := decide_eq_true c43
           try have c43b2 : (9223372036854775807 < (t205 ++ (⟨#[13, 10]⟩ : ByteArray)).size + 2) = False := eq_false (Nat.not_lt.2 c43)
           try have c43b5 : (9223372036854775807 < t205.size + 2 + 2) = False := eq_false (Nat.not_lt.2 (by have z_ := c43; rw [ByteArray.size_append] at z_; exact z_))
           simp only [Option.some.injEq, Prod.mk.injEq] at H
           obtain ⟨rfl, rfl⟩ := H
           obtain ⟨Ao44, co44, eo44⟩ := Kd.R_slice HO_8.out
           subst eo44
           go_wp2_with (first | ((with_reducible refine gate_callee (f := 30) rfl ?_); refine goesL_ (some 55) rfl rfl Tryz.func30 (by kernel_rfl) rfl #[.slice Ao44 x8_2.length co44, .string (⟨#[13, 10]⟩ : ByteArray)] rfl (by (try simp only [List.map_toArray, List.map_cons, List.map_nil]); first | done | rfl | (simp only [List.length_drop, List.length_take]; rfl)) ?_; (with_reducible refine (strings_Join.calls _ _ x8_2 (⟨#[13, 10]⟩ : ByteArray) t205 _ ?side1 ?side2 A38.out).mono ?_); (case side1 => repeat (first | exact (Kd.R_reads' HO_8.out).2.2 | (with_reducible refine Kd.C_alloc ?_ _) | (with_reducible refine Kd.C_drewN ?_ _) | (with_reducible refine Kd.C_drew ?_))); (case side2 => exact (Kd.R_reads' HO_8.out).2.1); rintro e w45 ⟨rfl, hb⟩; refine ⟨_, rfl, ?_⟩; have n0_ := aM (Kd.R_below (by (with_reducible repeat (first | apply rA | apply rN | apply rD)); exact HO_8.out) hb); have n1_ := aM (blk_below (g := gb186) (o := .cells #[.string a0_0, .string a0_1, .int .i64 a0_2, .string a0_3, .int .i64 a0_4, .slice A0_5 l0_5.length c0_5] 30 (0, 0)) (by (with_reducible repeat (first | refine bN ?_ _ | refine bD ?_ | refine bA ?_ _)); exact BK186.out) hb); have n2_ := aM (below_step (by repeat (first | (with_reducible first | exact HB.out | apply lA | apply lN | apply lD | refine below_set ?_ GE186.out) | exact HB.out)) hb); clear HO_8 BK186 HB; have HO_8 := n0_; have BK186 := n1_; have HB := n2_; clear n0_ n1_ n2_; (try clear hb); (try clear hb2); (try clear hk); (try clear hi)))
           go_ret2
           exact ⟨by first | rfl | (simp [errW_none, errW_some] <;> rfl) | (simp [*, errW_none, errW_some] <;> rfl), by repeat (first | (with_reducible first | exact HB.out | apply lA | apply lN | apply lD | refine below_set ?_ GE186.out) | exact HB.out)⟩
          ·rw [if_neg c43] at H
           exact absurd H (by simp)
         ·rw [if_neg c42] at H
          exact absurd H (by simp)
  ·rw [if_neg c6] at H
   exact absurd H (by simp)
 ·replace c4 := Bool.eq_false_iff.mpr c4
  subst c4
  have H1 : (some ((⟨#[]⟩ : ByteArray), 1)) = some (r1, r2) := by rw [if_neg (show ¬ (false = true) by decide)] at H; exact H
  clear H
  have H := H1
  clear H1
  simp only [Option.some.injEq, Prod.mk.injEq] at H
  obtain ⟨rfl, rfl⟩ := H
  go_enter Tryz.func16, Tryz.ntmps16
  go_wp2_with (first | ((with_reducible refine gate_dst (N := 2) rfl ?_); refine box_event ?hg (N := 2) ?hd (cs := #[.string a0_0, .string a0_1, .int .i64 a0_2, .string a0_3, .int .i64 a0_4, .slice A0_5 l0_5.length c0_5]) (t := 30) ?hr ?_; (case hd => rfl); (case hg => rfl); (case hr => first | (go_simp; done) | (go_simp; rfl)); intro gb186 hg w46 hbox hb; have n0_ := aM (below_step (by repeat (first | (with_reducible first | exact HB.out | apply lA | apply lN | apply lD) | exact HB.out)) hb); have n1_ := aM (hbox); have n2_ := aM ((by rw [hg]; exact (below_size (by repeat (first | (with_reducible first | exact HB.out | apply lA | apply lN | apply lD) | exact HB.out))) : w.heap.size ≤ gb186)); have n3_ := n2_; clear HB; have HB := n0_; have BK186 := n1_; have GW186 := n2_; have GE186 := n3_; clear n0_ n1_ n2_ n3_; clear hb hbox hg; obtain ⟨hcz47_0, hcz47_1, hcz47_2, hcz47_3, hcz47_4, hcz47_5, hfz47_0, hfz47_1, hfz47_2, hfz47_3, hfz47_4, hfz47_5⟩ := cz6 BK186.out) | ((with_reducible refine gate_callee (f := 17) rfl ?_); refine goesL_ (some 14) rfl rfl Tryz.func17 (by kernel_rfl) rfl #[.agg #[.string a0_0, .string a0_1, .int .i64 a0_2, .string a0_3, .int .i64 a0_4, .slice A0_5 l0_5.length c0_5], .bool a1] rfl (by (try simp only [List.map_toArray, List.map_cons, List.map_nil]); first | done | rfl | (simp only [List.length_drop, List.length_take]; rfl)) ?_; (with_reducible refine (head_Right.calls k a0_0 a0_1 a0_2 a0_3 a0_4 _ _ l0_5 a1 false _ ?side1 ?side2 A3.out).mono ?_); (case side1 => repeat (first | exact (Kd.C_below HR0_5.out HB.out) | (with_reducible refine Kd.C_alloc ?_ _) | (with_reducible refine Kd.C_drewN ?_ _) | (with_reducible refine Kd.C_drew ?_))); (case side2 => exact HC0_5.out); rintro e w48 ⟨rfl, hb⟩; refine ⟨_, rfl, ?_⟩; have n0_ := aM (blk_below (g := gb186) (o := .cells #[.string a0_0, .string a0_1, .int .i64 a0_2, .string a0_3, .int .i64 a0_4, .slice A0_5 l0_5.length c0_5] 30 (0, 0)) (by (with_reducible repeat (first | refine bN ?_ _ | refine bD ?_ | refine bA ?_ _)); exact BK186.out) hb); have n1_ := aM (below_step (by repeat (first | (with_reducible first | exact HB.out | apply lA | apply lN | apply lD | refine below_set ?_ GE186.out) | exact HB.out)) hb); clear BK186 HB; have BK186 := n0_; have HB := n1_; clear n0_ n1_; (try clear hb); (try clear hb2); (try clear hk); (try clear hi)))
  go_ret2
  exact ⟨by first | rfl | (simp [errW_none, errW_some] <;> rfl) | (simp [*, errW_none, errW_some] <;> rfl), by repeat (first | (with_reducible first | exact HB.out | apply lA | apply lN | apply lD | refine below_set ?_ GE186.out) | exact HB.out)⟩

def lockagelaw06_awake.f (k : Nat)  : Option (Bool) := (head_Parse.f k (⟨#[71, 69, 84, 32, 47, 97, 32, 72, 84, 84, 80, 47, 49, 46, 49, 13, 10, 72, 111, 115, 116, 58, 32, 120]⟩ : ByteArray) false).bind fun bt206 => ((head_Print.f k bt206.1 bt206.2.1 bt206.2.2.1 bt206.2.2.2.1 bt206.2.2.2.2.1 bt206.2.2.2.2.2.1 false).bind fun bt216 => ((head_Parse.f k (⟨#[72, 84, 84, 80, 47, 49, 46, 48, 32, 52, 48, 52, 32, 78, 111, 116, 32, 70, 111, 117, 110, 100]⟩ : ByteArray) true).bind fun bt218 => ((head_Parse.f k (⟨#[71, 69, 84, 32, 47, 97, 32, 72, 84, 84, 80, 47, 50, 46, 48]⟩ : ByteArray) false).bind fun bt228 => ((head_Parse.f k (⟨#[71, 69, 84, 32, 47, 97]⟩ : ByteArray) false).bind fun bt238 => (if bt206.2.2.2.2.2.2 = 0 then (if bt216.2 = 0 then (if bt216.1.toList = ([71, 69, 84, 32, 47, 97, 32, 72, 84, 84, 80, 47, 49, 46, 49, 13, 10, 72, 111, 115, 116, 58, 32, 120, 13, 10, 13, 10] : List UInt8) then (if bt218.2.2.2.2.2.2 = 0 then (if bt218.2.2.1 = 404 then (if bt218.2.2.2.1.toList = ([78, 111, 116, 32, 70, 111, 117, 110, 100] : List UInt8) then (if bt228.2.2.2.2.2.2 = 24 then (if bt238.2.2.2.2.2.2 = 20 then ((head_Right.f k bt206.1 bt206.2.1 bt206.2.2.1 bt206.2.2.2.1 bt206.2.2.2.2.1 bt206.2.2.2.2.2.1 false).bind fun t248 => (if t248 = true then ((head_Right.f k bt206.1 bt206.2.1 bt206.2.2.1 bt206.2.2.2.1 bt206.2.2.2.2.1 bt206.2.2.2.2.2.1 true).bind fun t249 => (some (!t249))) else (none))) else (none)) else (none)) else (none)) else (none)) else (none)) else (none)) else (none)) else (none))))))
theorem lockagelaw06_awake.mono : ∀ k, LeO (lockagelaw06_awake.f k ) (lockagelaw06_awake.f (k + 1) ) := by
 intro  k
 unfold lockagelaw06_awake.f
 repeat' first
   | (with_reducible exact head_Parse.mono _ _ _)
   | (with_reducible exact head_Print.mono _ _ _ _ _ _ _ _)
   | (with_reducible exact head_Right.mono _ _ _ _ _ _ _ _)
   | (with_reducible exact LeO.refl _)
   | (with_reducible exact LeO.none _)
   | (with_reducible refine LeO.ite ?_ ?_)
   | (with_reducible refine LeO.bind ?_ (fun _ => ?_))
   | exact head_Parse.mono _ _ _
   | exact head_Print.mono _ _ _ _ _ _ _ _
   | exact head_Right.mono _ _ _ _ _ _ _ _
   | exact LeO.none _
   | refine LeO.ite ?_ ?_
   | refine LeO.bind ?_ (fun _ => ?_)
set_option maxHeartbeats 8000000 in
set_option maxRecDepth 100000 in
theorem lockagelaw06_awake.calls (k : Nat)  (r : Bool) (w : World) (hG_ : H.GlobOk w) (h : lockagelaw06_awake.f k  = some r) :
  Calls Tryz.prog 8 #[] w fun e w' => e = .returned (.bool r) ∧ Below w.heap.size w w' := by
 have HG_ := aM hG_
 clear hG_
 have hu30 := Tryz.underlying30
 have HB := aM (Below.refl w.heap.size w)
 have H : ((head_Parse.f k (⟨#[71, 69, 84, 32, 47, 97, 32, 72, 84, 84, 80, 47, 49, 46, 49, 13, 10, 72, 111, 115, 116, 58, 32, 120]⟩ : ByteArray) false).bind fun bt206 => ((head_Print.f k bt206.1 bt206.2.1 bt206.2.2.1 bt206.2.2.2.1 bt206.2.2.2.2.1 bt206.2.2.2.2.2.1 false).bind fun bt216 => ((head_Parse.f k (⟨#[72, 84, 84, 80, 47, 49, 46, 48, 32, 52, 48, 52, 32, 78, 111, 116, 32, 70, 111, 117, 110, 100]⟩ : ByteArray) true).bind fun bt218 => ((head_Parse.f k (⟨#[71, 69, 84, 32, 47, 97, 32, 72, 84, 84, 80, 47, 50, 46, 48]⟩ : ByteArray) false).bind fun bt228 => ((head_Parse.f k (⟨#[71, 69, 84, 32, 47, 97]⟩ : ByteArray) false).bind fun bt238 => (if bt206.2.2.2.2.2.2 = 0 then (if bt216.2 = 0 then (if bt216.1.toList = ([71, 69, 84, 32, 47, 97, 32, 72, 84, 84, 80, 47, 49, 46, 49, 13, 10, 72, 111, 115, 116, 58, 32, 120, 13, 10, 13, 10] : List UInt8) then (if bt218.2.2.2.2.2.2 = 0 then (if bt218.2.2.1 = 404 then (if bt218.2.2.2.1.toList = ([78, 111, 116, 32, 70, 111, 117, 110, 100] : List UInt8) then (if bt228.2.2.2.2.2.2 = 24 then (if bt238.2.2.2.2.2.2 = 20 then ((head_Right.f k bt206.1 bt206.2.1 bt206.2.2.1 bt206.2.2.2.1 bt206.2.2.2.2.1 bt206.2.2.2.2.2.1 false).bind fun t248 => (if t248 = true then ((head_Right.f k bt206.1 bt206.2.1 bt206.2.2.1 bt206.2.2.2.1 bt206.2.2.2.2.1 bt206.2.2.2.2.2.1 true).bind fun t249 => (some (!t249))) else (none))) else (none)) else (none)) else (none)) else (none)) else (none)) else (none)) else (none)) else (none))))))) = some r := h
 clear h
 replace H := Option.bind_eq_some_iff.mp H
 obtain ⟨⟨t206, t207, t208, t209, t210, t211, t214⟩, A10, H⟩ := H
 replace H : ((head_Print.f k t206 t207 t208 t209 t210 t211 false).bind fun bt216 => ((head_Parse.f k (⟨#[72, 84, 84, 80, 47, 49, 46, 48, 32, 52, 48, 52, 32, 78, 111, 116, 32, 70, 111, 117, 110, 100]⟩ : ByteArray) true).bind fun bt218 => ((head_Parse.f k (⟨#[71, 69, 84, 32, 47, 97, 32, 72, 84, 84, 80, 47, 50, 46, 48]⟩ : ByteArray) false).bind fun bt228 => ((head_Parse.f k (⟨#[71, 69, 84, 32, 47, 97]⟩ : ByteArray) false).bind fun bt238 => (if t214 = 0 then (if bt216.2 = 0 then (if bt216.1.toList = ([71, 69, 84, 32, 47, 97, 32, 72, 84, 84, 80, 47, 49, 46, 49, 13, 10, 72, 111, 115, 116, 58, 32, 120, 13, 10, 13, 10] : List UInt8) then (if bt218.2.2.2.2.2.2 = 0 then (if bt218.2.2.1 = 404 then (if bt218.2.2.2.1.toList = ([78, 111, 116, 32, 70, 111, 117, 110, 100] : List UInt8) then (if bt228.2.2.2.2.2.2 = 24 then (if bt238.2.2.2.2.2.2 = 20 then ((head_Right.f k t206 t207 t208 t209 t210 t211 false).bind fun t248 => (if t248 = true then ((head_Right.f k t206 t207 t208 t209 t210 t211 true).bind fun t249 => (some (!t249))) else (none))) else (none)) else (none)) else (none)) else (none)) else (none)) else (none)) else (none)) else (none)))))) = some r := H
 have A1 := aM A10
 clear A10
 replace H := Option.bind_eq_some_iff.mp H
 obtain ⟨⟨t216, t217⟩, A20, H⟩ := H
 replace H : ((head_Parse.f k (⟨#[72, 84, 84, 80, 47, 49, 46, 48, 32, 52, 48, 52, 32, 78, 111, 116, 32, 70, 111, 117, 110, 100]⟩ : ByteArray) true).bind fun bt218 => ((head_Parse.f k (⟨#[71, 69, 84, 32, 47, 97, 32, 72, 84, 84, 80, 47, 50, 46, 48]⟩ : ByteArray) false).bind fun bt228 => ((head_Parse.f k (⟨#[71, 69, 84, 32, 47, 97]⟩ : ByteArray) false).bind fun bt238 => (if t214 = 0 then (if t217 = 0 then (if t216.toList = ([71, 69, 84, 32, 47, 97, 32, 72, 84, 84, 80, 47, 49, 46, 49, 13, 10, 72, 111, 115, 116, 58, 32, 120, 13, 10, 13, 10] : List UInt8) then (if bt218.2.2.2.2.2.2 = 0 then (if bt218.2.2.1 = 404 then (if bt218.2.2.2.1.toList = ([78, 111, 116, 32, 70, 111, 117, 110, 100] : List UInt8) then (if bt228.2.2.2.2.2.2 = 24 then (if bt238.2.2.2.2.2.2 = 20 then ((head_Right.f k t206 t207 t208 t209 t210 t211 false).bind fun t248 => (if t248 = true then ((head_Right.f k t206 t207 t208 t209 t210 t211 true).bind fun t249 => (some (!t249))) else (none))) else (none)) else (none)) else (none)) else (none)) else (none)) else (none)) else (none)) else (none))))) = some r := H
 have A2 := aM A20
 clear A20
 replace H := Option.bind_eq_some_iff.mp H
 obtain ⟨⟨t218, t219, t220, t221, t222, t223, t226⟩, A30, H⟩ := H
 replace H : ((head_Parse.f k (⟨#[71, 69, 84, 32, 47, 97, 32, 72, 84, 84, 80, 47, 50, 46, 48]⟩ : ByteArray) false).bind fun bt228 => ((head_Parse.f k (⟨#[71, 69, 84, 32, 47, 97]⟩ : ByteArray) false).bind fun bt238 => (if t214 = 0 then (if t217 = 0 then (if t216.toList = ([71, 69, 84, 32, 47, 97, 32, 72, 84, 84, 80, 47, 49, 46, 49, 13, 10, 72, 111, 115, 116, 58, 32, 120, 13, 10, 13, 10] : List UInt8) then (if t226 = 0 then (if t220 = 404 then (if t221.toList = ([78, 111, 116, 32, 70, 111, 117, 110, 100] : List UInt8) then (if bt228.2.2.2.2.2.2 = 24 then (if bt238.2.2.2.2.2.2 = 20 then ((head_Right.f k t206 t207 t208 t209 t210 t211 false).bind fun t248 => (if t248 = true then ((head_Right.f k t206 t207 t208 t209 t210 t211 true).bind fun t249 => (some (!t249))) else (none))) else (none)) else (none)) else (none)) else (none)) else (none)) else (none)) else (none)) else (none)))) = some r := H
 have A3 := aM A30
 clear A30
 replace H := Option.bind_eq_some_iff.mp H
 obtain ⟨⟨t228, t229, t230, t231, t232, t233, t236⟩, A40, H⟩ := H
 replace H : ((head_Parse.f k (⟨#[71, 69, 84, 32, 47, 97]⟩ : ByteArray) false).bind fun bt238 => (if t214 = 0 then (if t217 = 0 then (if t216.toList = ([71, 69, 84, 32, 47, 97, 32, 72, 84, 84, 80, 47, 49, 46, 49, 13, 10, 72, 111, 115, 116, 58, 32, 120, 13, 10, 13, 10] : List UInt8) then (if t226 = 0 then (if t220 = 404 then (if t221.toList = ([78, 111, 116, 32, 70, 111, 117, 110, 100] : List UInt8) then (if t236 = 24 then (if bt238.2.2.2.2.2.2 = 20 then ((head_Right.f k t206 t207 t208 t209 t210 t211 false).bind fun t248 => (if t248 = true then ((head_Right.f k t206 t207 t208 t209 t210 t211 true).bind fun t249 => (some (!t249))) else (none))) else (none)) else (none)) else (none)) else (none)) else (none)) else (none)) else (none)) else (none))) = some r := H
 have A4 := aM A40
 clear A40
 replace H := Option.bind_eq_some_iff.mp H
 obtain ⟨⟨t238, t239, t240, t241, t242, t243, t246⟩, A50, H⟩ := H
 replace H : (if t214 = 0 then (if t217 = 0 then (if t216.toList = ([71, 69, 84, 32, 47, 97, 32, 72, 84, 84, 80, 47, 49, 46, 49, 13, 10, 72, 111, 115, 116, 58, 32, 120, 13, 10, 13, 10] : List UInt8) then (if t226 = 0 then (if t220 = 404 then (if t221.toList = ([78, 111, 116, 32, 70, 111, 117, 110, 100] : List UInt8) then (if t236 = 24 then (if t246 = 20 then ((head_Right.f k t206 t207 t208 t209 t210 t211 false).bind fun t248 => (if t248 = true then ((head_Right.f k t206 t207 t208 t209 t210 t211 true).bind fun t249 => (some (!t249))) else (none))) else (none)) else (none)) else (none)) else (none)) else (none)) else (none)) else (none)) else (none)) = some r := H
 have A5 := aM A50
 clear A50
 by_cases c6 : t214 = 0
 ·rw [if_pos c6] at H
  have c6b0 : (t214 == 0) = true := beq_iff_eq.mpr c6
  have c6b1 : (t214 != 0) = false := bne_eq_false_iff_eq.mpr c6
  clear c6
  by_cases c7 : t217 = 0
  ·rw [if_pos c7] at H
   have c7b0 : (t217 == 0) = true := beq_iff_eq.mpr c7
   have c7b1 : (t217 != 0) = false := bne_eq_false_iff_eq.mpr c7
   clear c7
   by_cases c8 : t216.toList = ([71, 69, 84, 32, 47, 97, 32, 72, 84, 84, 80, 47, 49, 46, 49, 13, 10, 72, 111, 115, 116, 58, 32, 120, 13, 10, 13, 10] : List UInt8)
   ·rw [if_pos c8] at H
    have c8b0 : (t216.toList == ([71, 69, 84, 32, 47, 97, 32, 72, 84, 84, 80, 47, 49, 46, 49, 13, 10, 72, 111, 115, 116, 58, 32, 120, 13, 10, 13, 10] : List UInt8)) = true := beq_iff_eq.mpr c8
    have c8b1 : (t216.toList != ([71, 69, 84, 32, 47, 97, 32, 72, 84, 84, 80, 47, 49, 46, 49, 13, 10, 72, 111, 115, 116, 58, 32, 120, 13, 10, 13, 10] : List UInt8)) = false := bne_eq_false_iff_eq.mpr c8
    clear c8
    by_cases c9 : t226 = 0
    ·rw [if_pos c9] at H
     have c9b0 : (t226 == 0) = true := beq_iff_eq.mpr c9
     have c9b1 : (t226 != 0) = false := bne_eq_false_iff_eq.mpr c9
     clear c9
     by_cases c10 : t220 = 404
     ·rw [if_pos c10] at H
      have c10b0 : (t220 == 404) = true := beq_iff_eq.mpr c10
      have c10b1 : (t220 != 404) = false := bne_eq_false_iff_eq.mpr c10
      clear c10
      by_cases c11 : t221.toList = ([78, 111, 116, 32, 70, 111, 117, 110, 100] : List UInt8)
      ·rw [if_pos c11] at H
       have c11b0 : (t221.toList == ([78, 111, 116, 32, 70, 111, 117, 110, 100] : List UInt8)) = true := beq_iff_eq.mpr c11
       have c11b1 : (t221.toList != ([78, 111, 116, 32, 70, 111, 117, 110, 100] : List UInt8)) = false := bne_eq_false_iff_eq.mpr c11
       clear c11
       by_cases c12 : t236 = 24
       ·rw [if_pos c12] at H
        have c12b0 : (t236 == 24) = true := beq_iff_eq.mpr c12
        have c12b1 : (t236 != 24) = false := bne_eq_false_iff_eq.mpr c12
        clear c12
        by_cases c13 : t246 = 20
        ·rw [if_pos c13] at H
         have c13b0 : (t246 == 20) = true := beq_iff_eq.mpr c13
         have c13b1 : (t246 != 20) = false := bne_eq_false_iff_eq.mpr c13
         clear c13
         replace H := Option.bind_eq_some_iff.mp H
         obtain ⟨t248, A140, H⟩ := H
         replace H : (if t248 = true then ((head_Right.f k t206 t207 t208 t209 t210 t211 true).bind fun t249 => (some (!t249))) else (none)) = some r := H
         have A14 := aM A140
         clear A140
         by_cases c15 : t248 = true
         ·subst c15
          have H1 : ((head_Right.f k t206 t207 t208 t209 t210 t211 true).bind fun t249 => (some (!t249))) = some r := by rw [if_pos rfl] at H; exact H
          clear H
          have H := H1
          clear H1
          replace H := Option.bind_eq_some_iff.mp H
          obtain ⟨t249, A160, H⟩ := H
          replace H : (some (!t249)) = some r := H
          have A16 := aM A160
          clear A160
          obtain rfl := Option.some.inj H
          go_enter Tryz.func8, Tryz.ntmps8
          go_wp2_with (first | ((with_reducible refine gate_callee (f := 15) rfl ?_); refine goesL_ (some 12) rfl rfl Tryz.func15 (by kernel_rfl) rfl #[.string (⟨#[71, 69, 84, 32, 47, 97, 32, 72, 84, 84, 80, 47, 49, 46, 49, 13, 10, 72, 111, 115, 116, 58, 32, 120]⟩ : ByteArray), .bool false] rfl (by (try simp only [List.map_toArray, List.map_cons, List.map_nil]); first | done | rfl | (simp only [List.length_drop, List.length_take]; rfl)) ?_; (with_reducible refine (head_Parse.calls k (⟨#[71, 69, 84, 32, 47, 97, 32, 72, 84, 84, 80, 47, 49, 46, 49, 13, 10, 72, 111, 115, 116, 58, 32, 120]⟩ : ByteArray) false t206 t207 t208 t209 t210 t211 t214 _ ?side1 A1.out).mono ?_); (case side1 => exact glob_below HG_.out (by repeat (first | (with_reducible first | exact HB.out | apply lA | apply lN | apply lD) | exact HB.out))); rintro e w17 ⟨v212, rfl, ho0, hb⟩; refine ⟨_, rfl, ?_⟩; have n0_ := aM (Kd.R_lower ho0 (below_size (by repeat (first | (with_reducible first | exact HB.out | apply lA | apply lN | apply lD) | exact HB.out)))); have n1_ := aM (below_step (by repeat (first | (with_reducible first | exact HB.out | apply lA | apply lN | apply lD) | exact HB.out)) hb); clear HB; have HO213 := n0_; have HB := n1_; clear n0_ n1_; (try clear hb); (try clear hb2); (try clear hk); (try clear hi); (try clear ho0)) | ((with_reducible refine gate_dst (N := 1) rfl ?_); refine box_event ?hg (N := 1) ?hd (cs := #[.string (⟨#[]⟩ : ByteArray), .string (⟨#[]⟩ : ByteArray), .int .i64 0, .string (⟨#[]⟩ : ByteArray), .int .i64 0, .slice none 0 0]) (t := 30) ?hr ?_; (case hd => rfl); (case hg => rfl); (case hr => first | (go_simp; done) | (go_simp; rfl)); intro gb215 hg w18 hbox hb; have n0_ := aM (Kd.R_below (by (with_reducible repeat (first | apply rA | apply rN | apply rD)); exact HO213.out) hb); have n1_ := aM (below_step (by repeat (first | (with_reducible first | exact HB.out | apply lA | apply lN | apply lD) | exact HB.out)) hb); have n2_ := aM (hbox); have n3_ := aM ((by rw [hg]; exact (below_size (by repeat (first | (with_reducible first | exact HB.out | apply lA | apply lN | apply lD) | exact HB.out))) : w.heap.size ≤ gb215)); have n4_ := n3_; clear HO213 HB; have HO213 := n0_; have HB := n1_; have BK215 := n2_; have GW215 := n3_; have GE215 := n4_; clear n0_ n1_ n2_ n3_ n4_; clear hb hbox hg; obtain ⟨hcz19_0, hcz19_1, hcz19_2, hcz19_3, hcz19_4, hcz19_5, hfz19_0, hfz19_1, hfz19_2, hfz19_3, hfz19_4, hfz19_5⟩ := cz6 BK215.out; obtain ⟨Ao20, co20, eo20⟩ := Kd.R_slice HO213.out; subst eo20) | ((with_reducible refine gate_callee (f := 16) rfl ?_); refine goesL_ (some 17) rfl rfl Tryz.func16 (by kernel_rfl) rfl #[.agg #[.string t206, .string t207, .int .i64 t208, .string t209, .int .i64 t210, .slice Ao20 t211.length co20], .bool false] rfl (by (try simp only [List.map_toArray, List.map_cons, List.map_nil]); first | done | rfl | (simp only [List.length_drop, List.length_take]; rfl)) ?_; (with_reducible refine (head_Print.calls k t206 t207 t208 t209 t210 _ _ t211 false t216 t217 _ ?side1 ?side2 ?side3 A2.out).mono ?_); (case side1 => refine (Kd.R_reads' (e := 37) (base := w.heap.size) (ok := fun k_ => True) (n := t211.length) (c := co20) ?_).2.2; exact (by (with_reducible repeat (first | apply rA | apply rN | apply rD)); exact (rF6 HO213.out BK215.out (by decide)))); (case side2 => exact (Kd.R_reads' HO213.out).2.1); (case side3 => exact glob_below HG_.out (by repeat (first | (with_reducible first | exact HB.out | apply lA | apply lN | apply lD | refine below_set ?_ GE215.out) | exact HB.out))); rintro e w21 ⟨rfl, hb⟩; refine ⟨_, rfl, ?_⟩; have n0_ := aM (Kd.R_below (by (with_reducible repeat (first | apply rA | apply rN | apply rD)); exact (rF6 HO213.out BK215.out (by decide))) hb); have n1_ := aM (blk_below (g := gb215) (o := .cells #[.string t206, .string t207, .int .i64 t208, .string t209, .int .i64 t210, .slice Ao20 t211.length co20] 30 (0, 0)) (by (repeat (first | (with_reducible first | refine bN ?_ _ | refine bD ?_ | refine bA ?_ _ | apply p6_5 | apply p6_4 | apply p6_3 | apply p6_2 | apply p6_1 | apply p6_0))); exact BK215.out) hb); have n2_ := aM (below_step (by repeat (first | (with_reducible first | exact HB.out | apply lA | apply lN | apply lD | refine below_set ?_ GE215.out) | exact HB.out)) hb); clear HO213 BK215 HB; have HO213 := n0_; have BK215 := n1_; have HB := n2_; clear n0_ n1_ n2_; (try clear hb); (try clear hb2); (try clear hk); (try clear hi)) | ((with_reducible refine gate_callee (f := 15) rfl ?_); refine goesL_ (some 21) rfl rfl Tryz.func15 (by kernel_rfl) rfl #[.string (⟨#[72, 84, 84, 80, 47, 49, 46, 48, 32, 52, 48, 52, 32, 78, 111, 116, 32, 70, 111, 117, 110, 100]⟩ : ByteArray), .bool true] rfl (by (try simp only [List.map_toArray, List.map_cons, List.map_nil]); first | done | rfl | (simp only [List.length_drop, List.length_take]; rfl)) ?_; (with_reducible refine (head_Parse.calls k (⟨#[72, 84, 84, 80, 47, 49, 46, 48, 32, 52, 48, 52, 32, 78, 111, 116, 32, 70, 111, 117, 110, 100]⟩ : ByteArray) true t218 t219 t220 t221 t222 t223 t226 _ ?side1 A3.out).mono ?_); (case side1 => exact glob_below HG_.out (by repeat (first | (with_reducible first | exact HB.out | apply lA | apply lN | apply lD | refine below_set ?_ GE215.out) | exact HB.out))); rintro e w22 ⟨v224, rfl, ho0, hb⟩; refine ⟨_, rfl, ?_⟩; have n0_ := aM (Kd.R_elder' (by (with_reducible repeat (first | apply rA | apply rN | apply rD)); exact HO213.out) (Kd.R_base ho0) hb); have n1_ := aM (Kd.R_lower (Kd.R_new' ho0 (Kd.R_lt (by (with_reducible repeat (first | apply rA | apply rN | apply rD)); exact HO213.out))) (below_size (by repeat (first | (with_reducible first | exact HB.out | apply lA | apply lN | apply lD | refine below_set ?_ GE215.out) | exact HB.out)))); have n2_ := aM (blk_below (g := gb215) (o := .cells #[.string t206, .string t207, .int .i64 t208, .string t209, .int .i64 t210, .slice Ao20 t211.length co20] 30 (0, 0)) (by (with_reducible repeat (first | refine bN ?_ _ | refine bD ?_ | refine bA ?_ _)); exact BK215.out) hb); have n3_ := aM (below_step (by repeat (first | (with_reducible first | exact HB.out | apply lA | apply lN | apply lD | refine below_set ?_ GE215.out) | exact HB.out)) hb); clear HO213 BK215 HB; have HO213 := n0_; have HO225 := n1_; have BK215 := n2_; have HB := n3_; clear n0_ n1_ n2_ n3_; (try clear hb); (try clear hb2); (try clear hk); (try clear hi); (try clear ho0)) | ((with_reducible refine gate_dst (N := 5) rfl ?_); refine box_event ?hg (N := 5) ?hd (cs := #[.string (⟨#[]⟩ : ByteArray), .string (⟨#[]⟩ : ByteArray), .int .i64 0, .string (⟨#[]⟩ : ByteArray), .int .i64 0, .slice none 0 0]) (t := 30) ?hr ?_; (case hd => rfl); (case hg => rfl); (case hr => first | (go_simp; done) | (go_simp; rfl)); intro gb227 hg w23 hbox hb; have n0_ := aM (Kd.R_below (by (with_reducible repeat (first | apply rA | apply rN | apply rD)); exact HO213.out) hb); have n1_ := aM (Kd.R_below (by (with_reducible repeat (first | apply rA | apply rN | apply rD)); exact HO225.out) hb); have n2_ := aM (blk_below (g := gb215) (o := .cells #[.string t206, .string t207, .int .i64 t208, .string t209, .int .i64 t210, .slice Ao20 t211.length co20] 30 (0, 0)) (by (with_reducible repeat (first | refine bN ?_ _ | refine bD ?_ | refine bA ?_ _)); exact BK215.out) hb); have n3_ := aM (below_step (by repeat (first | (with_reducible first | exact HB.out | apply lA | apply lN | apply lD | refine below_set ?_ GE215.out) | exact HB.out)) hb); have n4_ := aM (hbox); have n5_ := aM ((by rw [hg]; exact (below_size (by repeat (first | (with_reducible first | exact HB.out | apply lA | apply lN | apply lD | refine below_set ?_ GE215.out) | exact HB.out))) : w.heap.size ≤ gb227)); have n6_ := n5_; have n7_ := aM ((by rw [hg]; exact Nat.ne_of_lt (blk_lt (by (with_reducible repeat (first | refine bN ?_ _ | refine bD ?_ | refine bA ?_ _)); exact BK215.out)) : gb215 ≠ gb227)); have n8_ := aM (n7_.out.symm); clear HO213 HO225 BK215 HB; have HO213 := n0_; have HO225 := n1_; have BK215 := n2_; have HB := n3_; have BK227 := n4_; have GW227 := n5_; have GE227 := n6_; have NB215_227 := n7_; have NB227_215 := n8_; clear n0_ n1_ n2_ n3_ n4_ n5_ n6_ n7_ n8_; clear hb hbox hg; have hnb24 := NB227_215.out; have hnc24 := NB215_227.out; obtain ⟨hcz25_0, hcz25_1, hcz25_2, hcz25_3, hcz25_4, hcz25_5, hfz25_0, hfz25_1, hfz25_2, hfz25_3, hfz25_4, hfz25_5⟩ := cz6 BK227.out; obtain ⟨Ao26, co26, eo26⟩ := Kd.R_slice HO225.out; subst eo26) | ((with_reducible refine gate_callee (f := 15) rfl ?_); refine goesL_ (some 25) rfl rfl Tryz.func15 (by kernel_rfl) rfl #[.string (⟨#[71, 69, 84, 32, 47, 97, 32, 72, 84, 84, 80, 47, 50, 46, 48]⟩ : ByteArray), .bool false] rfl (by (try simp only [List.map_toArray, List.map_cons, List.map_nil]); first | done | rfl | (simp only [List.length_drop, List.length_take]; rfl)) ?_; (with_reducible refine (head_Parse.calls k (⟨#[71, 69, 84, 32, 47, 97, 32, 72, 84, 84, 80, 47, 50, 46, 48]⟩ : ByteArray) false t228 t229 t230 t231 t232 t233 t236 _ ?side1 A4.out).mono ?_); (case side1 => exact glob_below HG_.out (by repeat (first | (with_reducible first | exact HB.out | apply lA | apply lN | apply lD | refine below_set ?_ GE215.out | refine below_set ?_ GE227.out) | exact HB.out))); rintro e w27 ⟨v234, rfl, ho0, hb⟩; refine ⟨_, rfl, ?_⟩; have n0_ := aM (Kd.R_elder' (by (with_reducible repeat (first | apply rA | apply rN | apply rD)); exact (rF6 HO213.out BK227.out (by decide))) (Kd.R_base ho0) hb); have n1_ := aM (Kd.R_elder' (by (with_reducible repeat (first | apply rA | apply rN | apply rD)); exact (rF6 HO225.out BK227.out (by decide))) (Kd.R_base ho0) hb); have n2_ := aM (Kd.R_lower (Kd.R_new' (Kd.R_new' ho0 (Kd.R_lt (by (with_reducible repeat (first | apply rA | apply rN | apply rD)); exact (rF6 HO213.out BK227.out (by decide))))) (Kd.R_lt (by (with_reducible repeat (first | apply rA | apply rN | apply rD)); exact (rF6 HO225.out BK227.out (by decide))))) (below_size (by repeat (first | (with_reducible first | exact HB.out | apply lA | apply lN | apply lD | refine below_set ?_ GE215.out | refine below_set ?_ GE227.out) | exact HB.out)))); have n3_ := aM (blk_below (g := gb215) (o := .cells #[.string t206, .string t207, .int .i64 t208, .string t209, .int .i64 t210, .slice Ao20 t211.length co20] 30 (0, 0)) (by (repeat (first | (with_reducible first | refine bN ?_ _ | refine bD ?_ | refine bA ?_ _) | refine blk_far ?_ NB215_227.out _)); exact BK215.out) hb); have n4_ := aM (blk_below (g := gb227) (o := .cells #[.string t218, .string t219, .int .i64 t220, .string t221, .int .i64 t222, .slice Ao26 t223.length co26] 30 (0, 0)) (by (repeat (first | (with_reducible first | refine bN ?_ _ | refine bD ?_ | refine bA ?_ _ | apply p6_5 | apply p6_4 | apply p6_3 | apply p6_2 | apply p6_1 | apply p6_0))); exact BK227.out) hb); have n5_ := aM (below_step (by repeat (first | (with_reducible first | exact HB.out | apply lA | apply lN | apply lD | refine below_set ?_ GE215.out | refine below_set ?_ GE227.out) | exact HB.out)) hb); clear HO213 HO225 BK215 BK227 HB; have HO213 := n0_; have HO225 := n1_; have HO235 := n2_; have BK215 := n3_; have BK227 := n4_; have HB := n5_; clear n0_ n1_ n2_ n3_ n4_ n5_; (try clear hb); (try clear hb2); (try clear hk); (try clear hi); (try clear ho0)) | ((with_reducible refine gate_dst (N := 7) rfl ?_); refine box_event ?hg (N := 7) ?hd (cs := #[.string (⟨#[]⟩ : ByteArray), .string (⟨#[]⟩ : ByteArray), .int .i64 0, .string (⟨#[]⟩ : ByteArray), .int .i64 0, .slice none 0 0]) (t := 30) ?hr ?_; (case hd => rfl); (case hg => rfl); (case hr => first | (go_simp; done) | (go_simp; rfl)); intro gb237 hg w28 hbox hb; have n0_ := aM (Kd.R_below (by (with_reducible repeat (first | apply rA | apply rN | apply rD)); exact HO213.out) hb); have n1_ := aM (Kd.R_below (by (with_reducible repeat (first | apply rA | apply rN | apply rD)); exact HO225.out) hb); have n2_ := aM (Kd.R_below (by (with_reducible repeat (first | apply rA | apply rN | apply rD)); exact HO235.out) hb); have n3_ := aM (blk_below (g := gb215) (o := .cells #[.string t206, .string t207, .int .i64 t208, .string t209, .int .i64 t210, .slice Ao20 t211.length co20] 30 (0, 0)) (by (with_reducible repeat (first | refine bN ?_ _ | refine bD ?_ | refine bA ?_ _)); exact BK215.out) hb); have n4_ := aM (blk_below (g := gb227) (o := .cells #[.string t218, .string t219, .int .i64 t220, .string t221, .int .i64 t222, .slice Ao26 t223.length co26] 30 (0, 0)) (by (with_reducible repeat (first | refine bN ?_ _ | refine bD ?_ | refine bA ?_ _)); exact BK227.out) hb); have n5_ := aM (below_step (by repeat (first | (with_reducible first | exact HB.out | apply lA | apply lN | apply lD | refine below_set ?_ GE215.out | refine below_set ?_ GE227.out) | exact HB.out)) hb); have n6_ := aM (hbox); have n7_ := aM ((by rw [hg]; exact (below_size (by repeat (first | (with_reducible first | exact HB.out | apply lA | apply lN | apply lD | refine below_set ?_ GE215.out | refine below_set ?_ GE227.out) | exact HB.out))) : w.heap.size ≤ gb237)); have n8_ := n7_; have n9_ := aM ((by rw [hg]; exact Nat.ne_of_lt (blk_lt (by (with_reducible repeat (first | refine bN ?_ _ | refine bD ?_ | refine bA ?_ _)); exact BK215.out)) : gb215 ≠ gb237)); have n10_ := aM (n9_.out.symm); have n11_ := aM ((by rw [hg]; exact Nat.ne_of_lt (blk_lt (by (with_reducible repeat (first | refine bN ?_ _ | refine bD ?_ | refine bA ?_ _)); exact BK227.out)) : gb227 ≠ gb237)); have n12_ := aM (n11_.out.symm); clear HO213 HO225 HO235 BK215 BK227 HB; have HO213 := n0_; have HO225 := n1_; have HO235 := n2_; have BK215 := n3_; have BK227 := n4_; have HB := n5_; have BK237 := n6_; have GW237 := n7_; have GE237 := n8_; have NB215_237 := n9_; have NB237_215 := n10_; have NB227_237 := n11_; have NB237_227 := n12_; clear n0_ n1_ n2_ n3_ n4_ n5_ n6_ n7_ n8_ n9_ n10_ n11_ n12_; clear hb hbox hg; have hnb29 := NB237_215.out; have hnc29 := NB215_237.out; have hnb30 := NB237_227.out; have hnc30 := NB227_237.out; obtain ⟨hcz31_0, hcz31_1, hcz31_2, hcz31_3, hcz31_4, hcz31_5, hfz31_0, hfz31_1, hfz31_2, hfz31_3, hfz31_4, hfz31_5⟩ := cz6 BK237.out; obtain ⟨Ao32, co32, eo32⟩ := Kd.R_slice HO235.out; subst eo32) | ((with_reducible refine gate_callee (f := 15) rfl ?_); refine goesL_ (some 29) rfl rfl Tryz.func15 (by kernel_rfl) rfl #[.string (⟨#[71, 69, 84, 32, 47, 97]⟩ : ByteArray), .bool false] rfl (by (try simp only [List.map_toArray, List.map_cons, List.map_nil]); first | done | rfl | (simp only [List.length_drop, List.length_take]; rfl)) ?_; (with_reducible refine (head_Parse.calls k (⟨#[71, 69, 84, 32, 47, 97]⟩ : ByteArray) false t238 t239 t240 t241 t242 t243 t246 _ ?side1 A5.out).mono ?_); (case side1 => exact glob_below HG_.out (by repeat (first | (with_reducible first | exact HB.out | apply lA | apply lN | apply lD | refine below_set ?_ GE215.out | refine below_set ?_ GE227.out | refine below_set ?_ GE237.out) | exact HB.out))); rintro e w33 ⟨v244, rfl, ho0, hb⟩; refine ⟨_, rfl, ?_⟩; have n0_ := aM (Kd.R_elder' (by (with_reducible repeat (first | apply rA | apply rN | apply rD)); exact (rF6 HO213.out BK237.out (by decide))) (Kd.R_base ho0) hb); have n1_ := aM (Kd.R_elder' (by (with_reducible repeat (first | apply rA | apply rN | apply rD)); exact (rF6 HO225.out BK237.out (by decide))) (Kd.R_base ho0) hb); have n2_ := aM (Kd.R_elder' (by (with_reducible repeat (first | apply rA | apply rN | apply rD)); exact (rF6 HO235.out BK237.out (by decide))) (Kd.R_base ho0) hb); have n3_ := aM (Kd.R_lower (Kd.R_new' (Kd.R_new' (Kd.R_new' ho0 (Kd.R_lt (by (with_reducible repeat (first | apply rA | apply rN | apply rD)); exact (rF6 HO213.out BK237.out (by decide))))) (Kd.R_lt (by (with_reducible repeat (first | apply rA | apply rN | apply rD)); exact (rF6 HO225.out BK237.out (by decide))))) (Kd.R_lt (by (with_reducible repeat (first | apply rA | apply rN | apply rD)); exact (rF6 HO235.out BK237.out (by decide))))) (below_size (by repeat (first | (with_reducible first | exact HB.out | apply lA | apply lN | apply lD | refine below_set ?_ GE215.out | refine below_set ?_ GE227.out | refine below_set ?_ GE237.out) | exact HB.out)))); have n4_ := aM (blk_below (g := gb215) (o := .cells #[.string t206, .string t207, .int .i64 t208, .string t209, .int .i64 t210, .slice Ao20 t211.length co20] 30 (0, 0)) (by (repeat (first | (with_reducible first | refine bN ?_ _ | refine bD ?_ | refine bA ?_ _) | refine blk_far ?_ NB215_237.out _)); exact BK215.out) hb); have n5_ := aM (blk_below (g := gb227) (o := .cells #[.string t218, .string t219, .int .i64 t220, .string t221, .int .i64 t222, .slice Ao26 t223.length co26] 30 (0, 0)) (by (repeat (first | (with_reducible first | refine bN ?_ _ | refine bD ?_ | refine bA ?_ _) | refine blk_far ?_ NB227_237.out _)); exact BK227.out) hb); have n6_ := aM (blk_below (g := gb237) (o := .cells #[.string t228, .string t229, .int .i64 t230, .string t231, .int .i64 t232, .slice Ao32 t233.length co32] 30 (0, 0)) (by (repeat (first | (with_reducible first | refine bN ?_ _ | refine bD ?_ | refine bA ?_ _ | apply p6_5 | apply p6_4 | apply p6_3 | apply p6_2 | apply p6_1 | apply p6_0))); exact BK237.out) hb); have n7_ := aM (below_step (by repeat (first | (with_reducible first | exact HB.out | apply lA | apply lN | apply lD | refine below_set ?_ GE215.out | refine below_set ?_ GE227.out | refine below_set ?_ GE237.out) | exact HB.out)) hb); clear HO213 HO225 HO235 BK215 BK227 BK237 HB; have HO213 := n0_; have HO225 := n1_; have HO235 := n2_; have HO245 := n3_; have BK215 := n4_; have BK227 := n5_; have BK237 := n6_; have HB := n7_; clear n0_ n1_ n2_ n3_ n4_ n5_ n6_ n7_; (try clear hb); (try clear hb2); (try clear hk); (try clear hi); (try clear ho0)) | ((with_reducible refine gate_dst (N := 9) rfl ?_); refine box_event ?hg (N := 9) ?hd (cs := #[.string (⟨#[]⟩ : ByteArray), .string (⟨#[]⟩ : ByteArray), .int .i64 0, .string (⟨#[]⟩ : ByteArray), .int .i64 0, .slice none 0 0]) (t := 30) ?hr ?_; (case hd => rfl); (case hg => rfl); (case hr => first | (go_simp; done) | (go_simp; rfl)); intro gb247 hg w34 hbox hb; have n0_ := aM (Kd.R_below (by (with_reducible repeat (first | apply rA | apply rN | apply rD)); exact HO213.out) hb); have n1_ := aM (Kd.R_below (by (with_reducible repeat (first | apply rA | apply rN | apply rD)); exact HO225.out) hb); have n2_ := aM (Kd.R_below (by (with_reducible repeat (first | apply rA | apply rN | apply rD)); exact HO235.out) hb); have n3_ := aM (Kd.R_below (by (with_reducible repeat (first | apply rA | apply rN | apply rD)); exact HO245.out) hb); have n4_ := aM (blk_below (g := gb215) (o := .cells #[.string t206, .string t207, .int .i64 t208, .string t209, .int .i64 t210, .slice Ao20 t211.length co20] 30 (0, 0)) (by (with_reducible repeat (first | refine bN ?_ _ | refine bD ?_ | refine bA ?_ _)); exact BK215.out) hb); have n5_ := aM (blk_below (g := gb227) (o := .cells #[.string t218, .string t219, .int .i64 t220, .string t221, .int .i64 t222, .slice Ao26 t223.length co26] 30 (0, 0)) (by (with_reducible repeat (first | refine bN ?_ _ | refine bD ?_ | refine bA ?_ _)); exact BK227.out) hb); have n6_ := aM (blk_below (g := gb237) (o := .cells #[.string t228, .string t229, .int .i64 t230, .string t231, .int .i64 t232, .slice Ao32 t233.length co32] 30 (0, 0)) (by (with_reducible repeat (first | refine bN ?_ _ | refine bD ?_ | refine bA ?_ _)); exact BK237.out) hb); have n7_ := aM (below_step (by repeat (first | (with_reducible first | exact HB.out | apply lA | apply lN | apply lD | refine below_set ?_ GE215.out | refine below_set ?_ GE227.out | refine below_set ?_ GE237.out) | exact HB.out)) hb); have n8_ := aM (hbox); have n9_ := aM ((by rw [hg]; exact (below_size (by repeat (first | (with_reducible first | exact HB.out | apply lA | apply lN | apply lD | refine below_set ?_ GE215.out | refine below_set ?_ GE227.out | refine below_set ?_ GE237.out) | exact HB.out))) : w.heap.size ≤ gb247)); have n10_ := n9_; have n11_ := aM ((by rw [hg]; exact Nat.ne_of_lt (blk_lt (by (with_reducible repeat (first | refine bN ?_ _ | refine bD ?_ | refine bA ?_ _)); exact BK215.out)) : gb215 ≠ gb247)); have n12_ := aM (n11_.out.symm); have n13_ := aM ((by rw [hg]; exact Nat.ne_of_lt (blk_lt (by (with_reducible repeat (first | refine bN ?_ _ | refine bD ?_ | refine bA ?_ _)); exact BK227.out)) : gb227 ≠ gb247)); have n14_ := aM (n13_.out.symm); have n15_ := aM ((by rw [hg]; exact Nat.ne_of_lt (blk_lt (by (with_reducible repeat (first | refine bN ?_ _ | refine bD ?_ | refine bA ?_ _)); exact BK237.out)) : gb237 ≠ gb247)); have n16_ := aM (n15_.out.symm); clear HO213 HO225 HO235 HO245 BK215 BK227 BK237 HB; have HO213 := n0_; have HO225 := n1_; have HO235 := n2_; have HO245 := n3_; have BK215 := n4_; have BK227 := n5_; have BK237 := n6_; have HB := n7_; have BK247 := n8_; have GW247 := n9_; have GE247 := n10_; have NB215_247 := n11_; have NB247_215 := n12_; have NB227_247 := n13_; have NB247_227 := n14_; have NB237_247 := n15_; have NB247_237 := n16_; clear n0_ n1_ n2_ n3_ n4_ n5_ n6_ n7_ n8_ n9_ n10_ n11_ n12_ n13_ n14_ n15_ n16_; clear hb hbox hg; have hnb35 := NB247_215.out; have hnc35 := NB215_247.out; have hnb36 := NB247_227.out; have hnc36 := NB227_247.out; have hnb37 := NB247_237.out; have hnc37 := NB237_247.out; obtain ⟨hcz38_0, hcz38_1, hcz38_2, hcz38_3, hcz38_4, hcz38_5, hfz38_0, hfz38_1, hfz38_2, hfz38_3, hfz38_4, hfz38_5⟩ := cz6 BK247.out; obtain ⟨Ao39, co39, eo39⟩ := Kd.R_slice HO245.out; subst eo39; obtain ⟨hcz40_0, hcz40_1, hcz40_2, hcz40_3, hcz40_4, hcz40_5, hfz40_0, hfz40_1, hfz40_2, hfz40_3, hfz40_4, hfz40_5⟩ := cz6 BK227.out; obtain ⟨hcz41_0, hcz41_1, hcz41_2, hcz41_3, hcz41_4, hcz41_5, hfz41_0, hfz41_1, hfz41_2, hfz41_3, hfz41_4, hfz41_5⟩ := cz6 BK215.out) | (go_at_call 17; (with_reducible refine (head_Right.calls k t206 t207 t208 t209 t210 _ _ t211 false true _ ?side1 ?side2 A14.out).mono ?_); (case side1 => refine (Kd.R_reads' (e := 37) (base := w.heap.size) (ok := fun k_ => (((True ∧ some k_ ≠ (.slice Ao26 t223.length co26 : Value).ownBlock) ∧ some k_ ≠ (.slice Ao32 t233.length co32 : Value).ownBlock) ∧ some k_ ≠ (.slice Ao39 t243.length co39 : Value).ownBlock)) (n := t211.length) (c := co20) ?_).2.2; exact (by (with_reducible repeat (first | apply rA | apply rN | apply rD)); exact (rF6 HO213.out BK247.out (by decide)))); (case side2 => exact (Kd.R_reads' HO213.out).2.1); rintro e w42 ⟨rfl, hb⟩; have n0_ := aM (Kd.R_below (by (with_reducible repeat (first | apply rA | apply rN | apply rD)); exact (rF6 HO213.out BK247.out (by decide))) hb); have n1_ := aM (Kd.R_below (by (with_reducible repeat (first | apply rA | apply rN | apply rD)); exact (rF6 HO225.out BK247.out (by decide))) hb); have n2_ := aM (Kd.R_below (by (with_reducible repeat (first | apply rA | apply rN | apply rD)); exact (rF6 HO235.out BK247.out (by decide))) hb); have n3_ := aM (Kd.R_below (by (with_reducible repeat (first | apply rA | apply rN | apply rD)); exact (rF6 HO245.out BK247.out (by decide))) hb); have n4_ := aM (blk_below (g := gb215) (o := .cells #[.string t206, .string t207, .int .i64 t208, .string t209, .int .i64 t210, .slice Ao20 t211.length co20] 30 (0, 0)) (by (repeat (first | (with_reducible first | refine bN ?_ _ | refine bD ?_ | refine bA ?_ _) | refine blk_far ?_ NB215_247.out _)); exact BK215.out) hb); have n5_ := aM (blk_below (g := gb227) (o := .cells #[.string t218, .string t219, .int .i64 t220, .string t221, .int .i64 t222, .slice Ao26 t223.length co26] 30 (0, 0)) (by (repeat (first | (with_reducible first | refine bN ?_ _ | refine bD ?_ | refine bA ?_ _) | refine blk_far ?_ NB227_247.out _)); exact BK227.out) hb); have n6_ := aM (blk_below (g := gb237) (o := .cells #[.string t228, .string t229, .int .i64 t230, .string t231, .int .i64 t232, .slice Ao32 t233.length co32] 30 (0, 0)) (by (repeat (first | (with_reducible first | refine bN ?_ _ | refine bD ?_ | refine bA ?_ _) | refine blk_far ?_ NB237_247.out _)); exact BK237.out) hb); have n7_ := aM (blk_below (g := gb247) (o := .cells #[.string t238, .string t239, .int .i64 t240, .string t241, .int .i64 t242, .slice Ao39 t243.length co39] 30 (0, 0)) (by (repeat (first | (with_reducible first | refine bN ?_ _ | refine bD ?_ | refine bA ?_ _ | apply p6_5 | apply p6_4 | apply p6_3 | apply p6_2 | apply p6_1 | apply p6_0))); exact BK247.out) hb); have n8_ := aM (below_step (by repeat (first | (with_reducible first | exact HB.out | apply lA | apply lN | apply lD | refine below_set ?_ GE215.out | refine below_set ?_ GE227.out | refine below_set ?_ GE237.out | refine below_set ?_ GE247.out) | exact HB.out)) hb); clear HO213 HO225 HO235 HO245 BK215 BK227 BK237 BK247 HB; have HO213 := n0_; have HO225 := n1_; have HO235 := n2_; have HO245 := n3_; have BK215 := n4_; have BK227 := n5_; have BK237 := n6_; have BK247 := n7_; have HB := n8_; clear n0_ n1_ n2_ n3_ n4_ n5_ n6_ n7_ n8_; (try clear hb); (try clear hb2); (try clear hk); (try clear hi); obtain ⟨hcz43_0, hcz43_1, hcz43_2, hcz43_3, hcz43_4, hcz43_5, hfz43_0, hfz43_1, hfz43_2, hfz43_3, hfz43_4, hfz43_5⟩ := cz6 BK215.out) | (go_at_call 17; (with_reducible refine (head_Right.calls k t206 t207 t208 t209 t210 _ _ t211 true t249 _ ?side1 ?side2 A16.out).mono ?_); (case side1 => repeat (first | exact (Kd.R_reads' HO213.out).2.2 | (with_reducible refine Kd.C_alloc ?_ _) | (with_reducible refine Kd.C_drewN ?_ _) | (with_reducible refine Kd.C_drew ?_))); (case side2 => exact (Kd.R_reads' HO213.out).2.1); rintro e w44 ⟨rfl, hb⟩; have n0_ := aM (Kd.R_below (by (with_reducible repeat (first | apply rA | apply rN | apply rD)); exact HO213.out) hb); have n1_ := aM (Kd.R_below (by (with_reducible repeat (first | apply rA | apply rN | apply rD)); exact HO225.out) hb); have n2_ := aM (Kd.R_below (by (with_reducible repeat (first | apply rA | apply rN | apply rD)); exact HO235.out) hb); have n3_ := aM (Kd.R_below (by (with_reducible repeat (first | apply rA | apply rN | apply rD)); exact HO245.out) hb); have n4_ := aM (blk_below (g := gb215) (o := .cells #[.string t206, .string t207, .int .i64 t208, .string t209, .int .i64 t210, .slice Ao20 t211.length co20] 30 (0, 0)) (by (with_reducible repeat (first | refine bN ?_ _ | refine bD ?_ | refine bA ?_ _)); exact BK215.out) hb); have n5_ := aM (blk_below (g := gb227) (o := .cells #[.string t218, .string t219, .int .i64 t220, .string t221, .int .i64 t222, .slice Ao26 t223.length co26] 30 (0, 0)) (by (with_reducible repeat (first | refine bN ?_ _ | refine bD ?_ | refine bA ?_ _)); exact BK227.out) hb); have n6_ := aM (blk_below (g := gb237) (o := .cells #[.string t228, .string t229, .int .i64 t230, .string t231, .int .i64 t232, .slice Ao32 t233.length co32] 30 (0, 0)) (by (with_reducible repeat (first | refine bN ?_ _ | refine bD ?_ | refine bA ?_ _)); exact BK237.out) hb); have n7_ := aM (blk_below (g := gb247) (o := .cells #[.string t238, .string t239, .int .i64 t240, .string t241, .int .i64 t242, .slice Ao39 t243.length co39] 30 (0, 0)) (by (with_reducible repeat (first | refine bN ?_ _ | refine bD ?_ | refine bA ?_ _)); exact BK247.out) hb); have n8_ := aM (below_step (by repeat (first | (with_reducible first | exact HB.out | apply lA | apply lN | apply lD | refine below_set ?_ GE215.out | refine below_set ?_ GE227.out | refine below_set ?_ GE237.out | refine below_set ?_ GE247.out) | exact HB.out)) hb); clear HO213 HO225 HO235 HO245 BK215 BK227 BK237 BK247 HB; have HO213 := n0_; have HO225 := n1_; have HO235 := n2_; have HO245 := n3_; have BK215 := n4_; have BK227 := n5_; have BK237 := n6_; have BK247 := n7_; have HB := n8_; clear n0_ n1_ n2_ n3_ n4_ n5_ n6_ n7_ n8_; (try clear hb); (try clear hb2); (try clear hk); (try clear hi)))
          go_ret
          exact ⟨by first | rfl | (simp [errW_none, errW_some] <;> rfl) | (simp [*, errW_none, errW_some] <;> rfl), by repeat (first | (with_reducible first | exact HB.out | apply lA | apply lN | apply lD | refine below_set ?_ GE215.out | refine below_set ?_ GE227.out | refine below_set ?_ GE237.out | refine below_set ?_ GE247.out) | exact HB.out)⟩
         ·replace c15 := Bool.eq_false_iff.mpr c15
          subst c15
          have H1 : (none) = some r := by rw [if_neg (show ¬ (false = true) by decide)] at H; exact H
          clear H
          have H := H1
          clear H1
          exact absurd H (by simp)
        ·rw [if_neg c13] at H
         exact absurd H (by simp)
       ·rw [if_neg c12] at H
        exact absurd H (by simp)
      ·rw [if_neg c11] at H
       exact absurd H (by simp)
     ·rw [if_neg c10] at H
      exact absurd H (by simp)
    ·rw [if_neg c9] at H
     exact absurd H (by simp)
   ·rw [if_neg c8] at H
    exact absurd H (by simp)
  ·rw [if_neg c7] at H
   exact absurd H (by simp)
 ·rw [if_neg c6] at H
  exact absurd H (by simp)

def lockageref06_lines.l0 : Nat → ByteArray → List ByteArray → Int → Int → Option (List ByteArray)
 | 0, _, _, _, _ => none
 | k + 1, x0, x3, x4, x5 => if (wrap64 (x5 + 1)) < (x0.size : Int) then (if 0 ≤ x5 then (if x5 < (x0.size : Int) then (if (bt x0 x5) = 13 then (if 0 ≤ (wrap64 (x5 + 1)) then (if (bt x0 (wrap64 (x5 + 1))) = 10 then (if 0 ≤ x4 then (if x4 ≤ x5 then (if x5 ≤ (x0.size : Int) then (if x3.length < 8796093022208 then (lockageref06_lines.l0 k x0 (x3 ++ [x0.extract (x4 : Int).toNat (x5 : Int).toNat]) (wrap64 (x5 + 2)) (wrap64 ((wrap64 (x5 + 1)) + 1))) else (none)) else (none)) else (none)) else (none)) else (lockageref06_lines.l0 k x0 x3 x4 (wrap64 (x5 + 1)))) else (none)) else (lockageref06_lines.l0 k x0 x3 x4 (wrap64 (x5 + 1)))) else (none)) else (none)) else (if 0 ≤ x4 then (if x4 ≤ (x0.size : Int) then (if x3.length < 8796093022208 then (some (x3 ++ [x0.extract (x4 : Int).toNat x0.size])) else (none)) else (none)) else (none))
def lockageref06_lines.f (k : Nat) (a0 : ByteArray) : Option (List ByteArray) := lockageref06_lines.l0 k a0 ([] : List ByteArray) 0 0
theorem lockageref06_lines.mono_l : ∀ k, (∀ y0 y1 y2 y3, LeO (lockageref06_lines.l0 k y0 y1 y2 y3) (lockageref06_lines.l0 (k + 1) y0 y1 y2 y3))
 | 0 => fun _ _ _ _ r h => by simp [lockageref06_lines.l0] at h
 | k + 1 => by
  have ih0 := lockageref06_lines.mono_l k
  ·intro y0 y1 y2 y3
   unfold lockageref06_lines.l0
   repeat' first
   | (with_reducible exact ih0 _ _ _ _)
   | (with_reducible exact LeO.refl _)
   | (with_reducible exact LeO.none _)
   | (with_reducible refine LeO.ite ?_ ?_)
   | (with_reducible refine LeO.bind ?_ (fun _ => ?_))
   | exact ih0 _ _ _ _
   | exact LeO.none _
   | refine LeO.ite ?_ ?_
   | refine LeO.bind ?_ (fun _ => ?_)
theorem lockageref06_lines.mono : ∀ a0 k, LeO (lockageref06_lines.f k a0) (lockageref06_lines.f (k + 1) a0) := by
 intro a0 k
 have ih0 := lockageref06_lines.mono_l k
 unfold lockageref06_lines.f
 repeat' first
   | (with_reducible exact ih0 _ _ _ _)
   | (with_reducible exact LeO.refl _)
   | (with_reducible exact LeO.none _)
   | (with_reducible refine LeO.ite ?_ ?_)
   | (with_reducible refine LeO.bind ?_ (fun _ => ?_))
   | exact ih0 _ _ _ _
   | exact LeO.none _
   | refine LeO.ite ?_ ?_
   | refine LeO.bind ?_ (fun _ => ?_)
set_option maxHeartbeats 8000000 in
set_option maxRecDepth 100000 in
theorem lockageref06_lines.calls (k : Nat) (a0 : ByteArray) (r : List ByteArray) (w : World) (h : lockageref06_lines.f k a0 = some r) :
  Calls Tryz.prog 38 #[.string a0] w fun e w' => ∃ v0_ : Value, e = .returned (v0_) ∧ Kd.R Kd.string 9 w' w.heap.size (fun _ => True) v0_ r ∧ Below w.heap.size w w' := by
 have HB := aM (Below.refl w.heap.size w)
 have H : (lockageref06_lines.l0 k a0 ([] : List ByteArray) 0 0) = some r := h
 clear h
 have H' := aM H
 clear H
 go_enter Tryz.func38, Tryz.ntmps38
 go_wp2
 go_loopg [3, 4, 5] k (fun kq v3 v4 v5 w' => ∃ (x3_1 : List ByteArray) (x4_1 : Int) (x5_1 : Int), v4 = .int .i64 x4_1 ∧ v5 = .int .i64 x5_1 ∧ Aside0 (lockageref06_lines.l0 kq a0 x3_1 x4_1 x5_1 = some r) ∧ Aside0 (kq ≤ k) ∧ Aside0 (Kd.R Kd.string 9 w' w.heap.size (fun _ => True) v3 x3_1) ∧ Aside0 (Below w.heap.size w w'))
 case atStart => exact ⟨(([] : List ByteArray)), (0), (0), (by first | rfl | (simp; done) | (simp [*]; done)), (by first | rfl | (simp; done) | (simp [*]; done)), H', ⟨Nat.le_refl _⟩, ⟨by first | exact Kd.R_nil _ _ _ _ _ | exact Kd.N_nil _ _ _ _ _ | exact Kd.V_nil _ _ _ _ _ | exact Kd.Q_nil _ _ _ _ _ | exact Kd.S_nil _ _ _ _ _⟩, ⟨by repeat (first | (with_reducible first | exact HB.out | apply lA | apply lN | apply lD) | exact HB.out)⟩⟩
 case round =>
  clear H'
  obtain ⟨x3_1, x4_1, x5_1, rfl, rfl, HA, HK1, HO_3, HB⟩ := hrel
  cases gk with
  | zero => exact absurd HA.out (by simp [lockageref06_lines.l0])
  | succ k1 =>
   have H := HA.out
   clear HA
   simp only [lockageref06_lines.l0] at H
   by_cases c2 : (wrap64 (x5_1 + 1)) < (a0.size : Int)
   ·rw [if_pos c2] at H
    have c2b0 : decide ((wrap64 (x5_1 + 1)) < (a0.size : Int)) = true := decide_eq_true c2
    clear c2
    by_cases c3 : 0 ≤ x5_1
    ·rw [if_pos c3] at H
     have c3b0 : decide (0 ≤ x5_1) = true := decide_eq_true c3
     clear c3
     by_cases c4 : x5_1 < (a0.size : Int)
     ·rw [if_pos c4] at H
      have c4b0 : decide (x5_1 < (a0.size : Int)) = true := decide_eq_true c4
      clear c4
      by_cases c6 : (bt a0 x5_1) = 13
      ·rw [if_pos c6] at H
       have c6b0 : ((bt a0 x5_1) == 13) = true := beq_iff_eq.mpr c6
       have c6b1 : ((bt a0 x5_1) != 13) = false := bne_eq_false_iff_eq.mpr c6
       clear c6
       obtain ⟨ji7, hji7⟩ : ∃ j_ : Int, (wrap64 (x5_1 + 1)) = j_ := ⟨_, rfl⟩
       replace H : (if 0 ≤ (ji7) then (if (bt a0 (ji7)) = 10 then (if 0 ≤ x4_1 then (if x4_1 ≤ x5_1 then (if x5_1 ≤ (a0.size : Int) then (if x3_1.length < 8796093022208 then (lockageref06_lines.l0 k1 a0 (x3_1 ++ [a0.extract (x4_1 : Int).toNat (x5_1 : Int).toNat]) (wrap64 (x5_1 + 2)) (wrap64 ((ji7) + 1))) else (none)) else (none)) else (none)) else (none)) else (lockageref06_lines.l0 k1 a0 x3_1 x4_1 ji7)) else (none)) = some r := by first | (rw [hji7] at H; exact H) | (simp only [hji7] at H ⊢; exact H)
       (try rw [hji7] at c2b0)
       have hji7w : (IntKind.i64.wrap (x5_1 + 1)) = ji7 := (i64_w _).trans hji7
       by_cases c8 : 0 ≤ (ji7)
       ·rw [if_pos c8] at H
        have c8b0 : decide (0 ≤ (ji7)) = true := decide_eq_true c8
        clear c8
        by_cases c10 : (bt a0 (ji7)) = 10
        ·rw [if_pos c10] at H
         have c10b0 : ((bt a0 (ji7)) == 10) = true := beq_iff_eq.mpr c10
         have c10b1 : ((bt a0 (ji7)) != 10) = false := bne_eq_false_iff_eq.mpr c10
         clear c10
         by_cases c11 : 0 ≤ x4_1
         ·rw [if_pos c11] at H
          have c11b0 := eq_true c11
          have c11b1 : decide (0 ≤ x4_1) = true := decide_eq_true c11
          clear c11
          by_cases c12 : x4_1 ≤ x5_1
          ·rw [if_pos c12] at H
           have c12b0 := eq_true c12
           have c12b1 : decide (x4_1 ≤ x5_1) = true := decide_eq_true c12
           clear c12
           by_cases c13 : x5_1 ≤ (a0.size : Int)
           ·rw [if_pos c13] at H
            have c13b0 := eq_true c13
            have c13b1 : decide (x5_1 ≤ (a0.size : Int)) = true := decide_eq_true c13
            clear c13
            by_cases c14 : x3_1.length < 8796093022208
            ·rw [if_pos c14] at H
             have LMc14 := aM c14
             clear c14
             obtain ⟨y253, hy253⟩ : ∃ y_ : List ByteArray, y_ = (x3_1 ++ [a0.extract (x4_1 : Int).toNat (x5_1 : Int).toNat]) := ⟨_, rfl⟩
             replace H : (lockageref06_lines.l0 k1 a0 y253 (wrap64 (x5_1 + 2)) (wrap64 ((ji7) + 1))) = some r := by first | (rw [hy253]; with_reducible exact H) | (have H2_ := (Option.bind_some _ _).symm.trans H; rw [hy253]; with_reducible exact H2_) | (have H2_ := (Option.bind_some _ _).symm.trans H; with_reducible exact H2_) | with_reducible exact H | (rw [hy253]; exact H) | exact H
             have Ny253 := aM hy253
             clear hy253
             have H' := aM H
             clear H
             have p5 : 0 ≤ (x5_1 : Int) := of_decide_eq_true (by first | (with_reducible assumption) | assumption)
             have q5 : x5_1 < (a0.size : Int) := of_decide_eq_true (by first | (with_reducible assumption) | assumption)
             have hx5 := bt_at a0 x5_1
             replace p5 := eq_true p5
             replace q5 := eq_true q5
             have p9 : 0 ≤ ((ji7) : Int) := of_decide_eq_true (by first | (with_reducible assumption) | assumption)
             have q9 : (ji7) < (a0.size : Int) := of_decide_eq_true (by first | (with_reducible assumption) | assumption)
             have hx9 := bt_at a0 (ji7)
             replace p9 := eq_true p9
             replace q9 := eq_true q9
             go_wp2_with (first | ((with_reducible refine gate_builtin (b := .append) (xs := #[.tmp 24, .tmp 29]) rfl ?_); at_builtin; refine Kd.R_append Kd.string (w0 := w) w.heap.size rfl (.tmp 24) (.tmp 29) 25 9 (.string ⟨#[]⟩) 16 rfl Tryz.underlying25 info9 rfl (by decide) (by omega) u3 x3_1 (a0.extract (x4_1 : Int).toNat (x5_1 : Int).toNat) [.string (a0.extract (x4_1 : Int).toNat (x5_1 : Int).toNat)] (fun _ => True) (fun _ => False) rfl rfl ?aP (fun _ hk => hk.elim) ?aF ?aO ?aB ?aS ?aL ?_; (case aP => exact rfl); (case aB => exact (by repeat (first | (with_reducible first | exact HB.out | apply lA | apply lN | apply lD) | exact HB.out))); (case aF => exact (fun _ _ => trivial)); (case aO => exact (by (with_reducible repeat (first | apply rA | apply rN | apply rD)); exact HO_3.out)); (case aS => exact (below_size (by repeat (first | (with_reducible first | exact HB.out | apply lA | apply lN | apply lD) | exact HB.out)))); (case aL => have := LMc14.out; omega); intro v254 w15 ho hb hg hat; rw [← Ny253.out] at ho; have n0_ := aM (hb); have n1_ := aM (ho); clear HB HO_3; have HB := n0_; have HO255 := n1_; clear n0_ n1_; clear ho hb hg hat))
             go_roundg k1
             case measure => have := HK1.out; omega
             case rel => exact ⟨(y253), (wrap64 (x5_1 + 2)), (wrap64 ((ji7) + 1)), (by first | rfl | (simp; done) | (simp [*]; done)), (by first | rfl | (simp; done) | (simp only [← hji7] <;> (first | rfl | simp)) | (simp [*]; done)), H', ⟨by have := HK1.out; omega⟩, ⟨by (with_reducible repeat (first | apply rA | apply rN | apply rD)); exact HO255.out⟩, ⟨by repeat (first | (with_reducible first | exact HB.out | apply lA | apply lN | apply lD) | exact HB.out)⟩⟩
            ·rw [if_neg c14] at H
             exact absurd H (by simp)
           ·rw [if_neg c13] at H
            exact absurd H (by simp)
          ·rw [if_neg c12] at H
           exact absurd H (by simp)
         ·rw [if_neg c11] at H
          exact absurd H (by simp)
        ·rw [if_neg c10] at H
         have c10b0 : ((bt a0 (ji7)) == 10) = false := beq_eq_false_iff_ne.mpr c10
         have c10b1 : ((bt a0 (ji7)) != 10) = true := bne_iff_ne.mpr c10
         have H' := aM H
         clear H
         have p5 : 0 ≤ (x5_1 : Int) := of_decide_eq_true (by first | (with_reducible assumption) | assumption)
         have q5 : x5_1 < (a0.size : Int) := of_decide_eq_true (by first | (with_reducible assumption) | assumption)
         have hx5 := bt_at a0 x5_1
         replace p5 := eq_true p5
         replace q5 := eq_true q5
         have p9 : 0 ≤ ((ji7) : Int) := of_decide_eq_true (by first | (with_reducible assumption) | assumption)
         have q9 : (ji7) < (a0.size : Int) := of_decide_eq_true (by first | (with_reducible assumption) | assumption)
         have hx9 := bt_at a0 (ji7)
         replace p9 := eq_true p9
         replace q9 := eq_true q9
         go_wp2
         go_roundg k1
         case measure => have := HK1.out; omega
         case rel => exact ⟨(x3_1), (x4_1), (ji7), (by first | rfl | (simp; done) | (simp [*]; done)), (by first | rfl | (simp; done) | (simp only [← hji7] <;> (first | rfl | simp)) | (simp [*]; done)), H', ⟨by have := HK1.out; omega⟩, ⟨by (with_reducible repeat (first | apply rA | apply rN | apply rD)); exact HO_3.out⟩, ⟨by repeat (first | (with_reducible first | exact HB.out | apply lA | apply lN | apply lD) | exact HB.out)⟩⟩
       ·rw [if_neg c8] at H
        exact absurd H (by simp)
      ·rw [if_neg c6] at H
       have c6b0 : ((bt a0 x5_1) == 13) = false := beq_eq_false_iff_ne.mpr c6
       have c6b1 : ((bt a0 x5_1) != 13) = true := bne_iff_ne.mpr c6
       have H' := aM H
       clear H
       have p5 : 0 ≤ (x5_1 : Int) := of_decide_eq_true (by first | (with_reducible assumption) | assumption)
       have q5 : x5_1 < (a0.size : Int) := of_decide_eq_true (by first | (with_reducible assumption) | assumption)
       have hx5 := bt_at a0 x5_1
       replace p5 := eq_true p5
       replace q5 := eq_true q5
       go_wp2
       go_roundg k1
       case measure => have := HK1.out; omega
       case rel => exact ⟨(x3_1), (x4_1), (wrap64 (x5_1 + 1)), (by first | rfl | (simp; done) | (simp [*]; done)), (by first | rfl | (simp; done) | (simp [*]; done)), H', ⟨by have := HK1.out; omega⟩, ⟨by (with_reducible repeat (first | apply rA | apply rN | apply rD)); exact HO_3.out⟩, ⟨by repeat (first | (with_reducible first | exact HB.out | apply lA | apply lN | apply lD) | exact HB.out)⟩⟩
     ·rw [if_neg c4] at H
      exact absurd H (by simp)
    ·rw [if_neg c3] at H
     exact absurd H (by simp)
   ·rw [if_neg c2] at H
    have c2b0 : decide ((wrap64 (x5_1 + 1)) < (a0.size : Int)) = false := decide_eq_false c2
    clear c2
    by_cases c16 : 0 ≤ x4_1
    ·rw [if_pos c16] at H
     have c16b0 := eq_true c16
     have c16b1 : decide (0 ≤ x4_1) = true := decide_eq_true c16
     clear c16
     by_cases c17 : x4_1 ≤ (a0.size : Int)
     ·rw [if_pos c17] at H
      have c17b0 := eq_true c17
      have c17b1 : decide (x4_1 ≤ (a0.size : Int)) = true := decide_eq_true c17
      clear c17
      by_cases c18 : x3_1.length < 8796093022208
      ·rw [if_pos c18] at H
       have LMc18 := aM c18
       clear c18
       obtain ⟨y250, hy250⟩ : ∃ y_ : List ByteArray, y_ = (x3_1 ++ [a0.extract (x4_1 : Int).toNat a0.size]) := ⟨_, rfl⟩
       replace H : (some y250) = some r := by first | (rw [hy250]; with_reducible exact H) | (have H2_ := (Option.bind_some _ _).symm.trans H; rw [hy250]; with_reducible exact H2_) | (have H2_ := (Option.bind_some _ _).symm.trans H; with_reducible exact H2_) | with_reducible exact H | (rw [hy250]; exact H) | exact H
       have Ny250 := aM hy250
       clear hy250
       obtain rfl := Option.some.inj H
       go_wp2_with (first | ((with_reducible refine gate_builtin (b := .append) (xs := #[.tmp 35, .tmp 39]) rfl ?_); at_builtin; refine Kd.R_append Kd.string (w0 := w) w.heap.size rfl (.tmp 35) (.tmp 39) 25 9 (.string ⟨#[]⟩) 16 rfl Tryz.underlying25 info9 rfl (by decide) (by omega) u3 x3_1 (a0.extract (x4_1 : Int).toNat a0.size) [.string (a0.extract (x4_1 : Int).toNat a0.size)] (fun _ => True) (fun _ => False) rfl rfl ?aP (fun _ hk => hk.elim) ?aF ?aO ?aB ?aS ?aL ?_; (case aP => exact rfl); (case aB => exact (by repeat (first | (with_reducible first | exact HB.out | apply lA | apply lN | apply lD) | exact HB.out))); (case aF => exact (fun _ _ => trivial)); (case aO => exact (by (with_reducible repeat (first | apply rA | apply rN | apply rD)); exact HO_3.out)); (case aS => exact (below_size (by repeat (first | (with_reducible first | exact HB.out | apply lA | apply lN | apply lD) | exact HB.out)))); (case aL => have := LMc18.out; omega); intro v251 w19 ho hb hg hat; rw [← Ny250.out] at ho; have n0_ := aM (hb); have n1_ := aM (ho); clear HB HO_3; have HB := n0_; have HO252 := n1_; clear n0_ n1_; clear ho hb hg hat))
       go_ret
       exact ⟨_, by first | rfl | (simp [errW_none, errW_some] <;> rfl) | (simp [*, errW_none, errW_some] <;> rfl), by (with_reducible repeat (first | apply rA | apply rN | apply rD)); exact HO252.out, by repeat (first | (with_reducible first | exact HB.out | apply lA | apply lN | apply lD) | exact HB.out)⟩
      ·rw [if_neg c18] at H
       exact absurd H (by simp)
     ·rw [if_neg c17] at H
      exact absurd H (by simp)
    ·rw [if_neg c16] at H
     exact absurd H (by simp)

end Go.Proofs.YtemhokkfefidlaaGreatDoor.P
