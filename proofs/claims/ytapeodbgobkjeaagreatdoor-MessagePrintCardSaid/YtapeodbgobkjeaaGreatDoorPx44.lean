/- Printed by a program of the session out of the translation: plain Lean functions, each with the contract that the Go function computes it. -/
import Derived.Test.YtapeodbgobkjeaaGreatDoorHZM
import Derived.Test.YtapeodbgobkjeaaGreatDoorPx0
import Derived.Test.YtapeodbgobkjeaaGreatDoorPx11
import Derived.Test.YtapeodbgobkjeaaGreatDoorHZC
import Derived.Test.YtapeodbgobkjeaaGreatDoorHZB
namespace Go.Proofs.YtapeodbgobkjeaaGreatDoor.P
open Go.RowKit Go.Proofs.YtapeodbgobkjeaaGreatDoorW.PrintWords Go.Proofs.YtapeodbgobkjeaaGreatDoorW.PrintLast Go.Proofs.YtapeodbgobkjeaaGreatDoorW.PrintMore
attribute [local go_sem] max2_int min2_int max_two min_two max_three min_three max_four min_four   -- for this text's walks alone
set_option linter.unusedVariables false
set_option linter.unusedSimpArgs false

mutual
def head_Print.j0 : Nat → List ByteArray → ByteArray → ByteArray → Int → ByteArray → Int → List (S40) → Option (ByteArray × Int)
 | 0, _, _, _, _, _, _, _ => none
 | k + 1, x7, x657000, x657001, x657002, x657003, x657004, x657005 => (strings_Join.f x7 (⟨#[32]⟩ : ByteArray)).bind fun t666 => (head_Print.l0 k (([t666] : List ByteArray)) x657005 (x657005.length : Int) 0)
def head_Print.l0 : Nat → List ByteArray → List (S40) → Int → Int → Option (ByteArray × Int)
 | 0, _, _, _, _ => none
 | k + 1, x8, x38, x39, x40 => if x40 < x39 then (if 0 ≤ x40 then (if x40 < (x38.length : Int) then (if ((rd_T40 x38 x40).f0).size + 2 ≤ 9223372036854775807 then (if (((rd_T40 x38 x40).f0) ++ (⟨#[58, 32]⟩ : ByteArray)).size + ((rd_T40 x38 x40).f1).size ≤ 9223372036854775807 then (if x8.length < 8796093022208 then (head_Print.l0 k (x8 ++ [(((rd_T40 x38 x40).f0) ++ (⟨#[58, 32]⟩ : ByteArray)) ++ ((rd_T40 x38 x40).f1)]) x38 x39 (wrap64 (x40 + 1))) else (none)) else (none)) else (none)) else (none)) else (none)) else ((strings_Join.f x8 (⟨#[13, 10]⟩ : ByteArray)).bind fun t675 => (if (t675.size : Int) > 2000 then (some ((⟨#[]⟩ : ByteArray), 2)) else (if t675.size + 2 ≤ 9223372036854775807 then (if (t675 ++ (⟨#[13, 10]⟩ : ByteArray)).size + 2 ≤ 9223372036854775807 then (some ((t675 ++ (⟨#[13, 10]⟩ : ByteArray)) ++ (⟨#[13, 10]⟩ : ByteArray), 0)) else (none)) else (none))))
end
def head_Print.f (k : Nat) (a0_0 : ByteArray) (a0_1 : ByteArray) (a0_2 : Int) (a0_3 : ByteArray) (a0_4 : Int) (l0_5 : List (S40)) (a1 : Bool) : Option (ByteArray × Int) := (head_Right.f k a0_0 a0_1 a0_2 a0_3 a0_4 l0_5 a1).bind fun t657 => (if t657 = true then ((num_Text.f a0_4 10).bind fun t658 => (if 7 + t658.size ≤ 9223372036854775807 then (if a1 = true then ((num_Text.f a0_2 10).bind fun t662 => (head_Print.j0 k (([(⟨#[72, 84, 84, 80, 47, 49, 46]⟩ : ByteArray) ++ t658, t662, a0_3] : List ByteArray)) a0_0 a0_1 a0_2 a0_3 a0_4 l0_5)) else (head_Print.j0 k (([a0_0, a0_1, (⟨#[72, 84, 84, 80, 47, 49, 46]⟩ : ByteArray) ++ t658] : List ByteArray)) a0_0 a0_1 a0_2 a0_3 a0_4 l0_5)) else (none))) else (some ((⟨#[]⟩ : ByteArray), 1)))
theorem head_Print.mono_l : ∀ k, (∀ y0 y1 y2 y3 y4 y5 y6, LeO (head_Print.j0 k y0 y1 y2 y3 y4 y5 y6) (head_Print.j0 (k + 1) y0 y1 y2 y3 y4 y5 y6)) ∧ (∀ y0 y1 y2 y3, LeO (head_Print.l0 k y0 y1 y2 y3) (head_Print.l0 (k + 1) y0 y1 y2 y3))
 | 0 => ⟨fun _ _ _ _ _ _ _ r h => by simp [head_Print.j0] at h, fun _ _ _ _ r h => by simp [head_Print.l0] at h⟩
 | k + 1 => by
  obtain ⟨ih0, ih1⟩ := head_Print.mono_l k
  refine ⟨?_, ?_⟩
  ·intro y0 y1 y2 y3 y4 y5 y6
   unfold head_Print.j0; have m0 := @head_Right.mono; exact zM
  ·intro y0 y1 y2 y3
   unfold head_Print.l0; have m0 := @head_Right.mono; exact zM
theorem head_Print.mono : ∀ a0 a1 a2 a3 a4 a5 a6 k, LeO (head_Print.f k a0 a1 a2 a3 a4 a5 a6) (head_Print.f (k + 1) a0 a1 a2 a3 a4 a5 a6) := by
 intro a0 a1 a2 a3 a4 a5 a6 k
 obtain ⟨ih0, ih1⟩ := head_Print.mono_l k
 unfold head_Print.f; have m0 := @head_Right.mono; exact zM
def head_Print.T6 : Bool × List (List Nat × List Nat) := (true, [([], []), ([], []), ([1], [1]), ([2], [2]), ([], []), ([4], [4]), ([0, 3, 5], [0, 3, 5]), ([6, 3, 0, 1, 2, 3, 4, 5, 6], [6])])
def head_Print.B6 : List Nat := [0, 0, 2, 6, 0, 16, 63, 127]
theorem head_Print.tab6 : rtab .any (opsOf Tryz.f35 6) = head_Print.T6 := by kernel_rfl
theorem head_Print.bits6 : waitsOk head_Print.T6.2 head_Print.B6 = true := by kernel_rfl
set_option maxHeartbeats 8000000 in
set_option maxRecDepth 100000 in
theorem head_Print.calls (k : Nat) (a0_0 : ByteArray) (a0_1 : ByteArray) (a0_2 : Int) (a0_3 : ByteArray) (a0_4 : Int) (A0_5 : Option Addr) (c0_5 : Nat) (l0_5 : List (S40)) (a1 : Bool) (r1 : ByteArray) (r2 : Int) (w : World) (hr0_5 : Kd.C k40 w A0_5 l0_5.length l0_5) (hc0_5 : l0_5.length ≤ c0_5) (hG_ : H.GlobOk w) (h : head_Print.f k a0_0 a0_1 a0_2 a0_3 a0_4 l0_5 a1 = some (r1, r2)) :
  Calls Tryz.prog 35 #[.agg #[.string a0_0, .string a0_1, .int .i64 a0_2, .string a0_3, .int .i64 a0_4, .slice A0_5 l0_5.length c0_5], .bool a1] w fun e w' => e = .returned (.tuple #[.string r1, .int .i64 r2]) ∧ Below w.heap.size w w' := by
 have HG_ := aM hG_; clear hG_; have hu29 := Tryz.underlying29; have hu40 := Tryz.underlying40; have HR0_5 := aM hr0_5; have HC0_5 := aM hc0_5; clear hr0_5 hc0_5; have HB := aM (Below.refl w.heap.size w); have H := h; unfold head_Print.f at H; clear h; obtain ⟨t657, A3, H⟩ := zc H; (try dsimp only at H); by_cases c4 : t657 = true
 ·subst c4; rw [if_pos rfl] at H; obtain ⟨t658, A5, H⟩ := zc H; (try dsimp only at H); by_cases c6 : 7 + t658.size ≤ 9223372036854775807
  ·rw [if_pos c6] at H; have c6b0 := eq_true c6; have c6b1 := decide_eq_true c6
   try have c6b2 : (9223372036854775807 < 7 + t658.size) = False := eq_false (Nat.not_lt.2 c6)
   obtain ⟨y659, hy659⟩ : ∃ y_ : List ByteArray, y_ = (([a0_0, a0_1, (⟨#[72, 84, 84, 80, 47, 49, 46]⟩ : ByteArray) ++ t658] : List ByteArray)) := ⟨_, rfl⟩; rw [← hy659] at H; have Ny659 := aM hy659; clear hy659; have HC7 := aM H; clear H
   go_enter Tryz.func35, Tryz.ntmps35
   go_upto_if 26 with (first | ((with_reducible refine gate_dst (N := 2) rfl ?_); refine box_event ?hg (N := 2) ?hd (cs := #[.string a0_0, .string a0_1, .int .i64 a0_2, .string a0_3, .int .i64 a0_4, .slice A0_5 l0_5.length c0_5]) (t := 29) ?hr ?_; (case hd => rfl); (case hg => rfl); (case hr => exact zG); intro gb656 hg w8 hbox hb; have BK656 := aM hbox; have GW656 := aM (by rw [hg]; exact (below_size zB) : w.heap.size ≤ gb656); replace HB := aM (below_step zB hb); have GE656 := GW656; clear hb hbox hg; obtain ⟨_, _, _, _, _, _, _, _, _, _, _, _⟩ := cz6 BK656.out) | ((with_reducible refine gate_callee (f := 43) rfl ?_); refine goesL_ (some 14) rfl rfl Tryz.func43 (by kernel_rfl) rfl #[.agg #[.string a0_0, .string a0_1, .int .i64 a0_2, .string a0_3, .int .i64 a0_4, .slice A0_5 l0_5.length c0_5], .bool a1] rfl zL ?_; (with_reducible refine (head_Right.calls k a0_0 a0_1 a0_2 a0_3 a0_4 _ _ l0_5 a1 true _ ?side1 ?side2 A3.out).mono ?_); (case side1 => exact zC (Kd.C_below HR0_5.out HB.out)); (case side2 => exact HC0_5.out); rintro e w10 ⟨rfl, hb⟩; refine ⟨_, rfl, ?_⟩; replace BK656 := aM (zX BK656.out hb); replace HB := aM (below_step zB hb); clear hb; obtain ⟨_, _, _, _, _, _, _, _, _, _, _, _⟩ := cz6 BK656.out) | ((with_reducible refine gate_callee (f := 34) rfl ?_); refine goesL_ (some 18) rfl rfl Tryz.func34 (by kernel_rfl) rfl #[.int .i64 a0_4, .int .i64 10] rfl zL ?_; (with_reducible refine (num_Text.calls a0_4 10 t658 _ ?side1 A5.out).mono ?_); (case side1 => exact glob_below HG_.out zB); rintro e w12 ⟨rfl, hb⟩; refine ⟨_, rfl, ?_⟩; replace BK656 := aM (zX BK656.out hb); replace HB := aM (below_step zB hb); clear hb; obtain ⟨_, _, _, _, _, _, _, _, _, _, _, _⟩ := cz6 BK656.out) | ((with_reducible refine gate_dst (N := 25) rfl ?_); refine Kd.R_lit Kd.string _ 9 ?hg (N := 25) ?hd (xs := ([a0_0, a0_1, (⟨#[72, 84, 84, 80, 47, 49, 46]⟩ : ByteArray) ++ t658] : List ByteArray)) (inner := [.string a0_0, .string a0_1, .string ((⟨#[72, 84, 84, 80, 47, 49, 46]⟩ : ByteArray) ++ t658)]) (ok := fun _ => True) (okp := fun _ => True) ?hr ?hp (fun _ hk => hk) trivial (Below.refl _ _) (Nat.le_refl _) (by simp) ?_; (case hd => rfl); (case hg => rfl); (case hr => exact zG); (case hp => exact (Reps.one (show Kd.M Kd.string _ _ _ a0_0 [.string a0_0] from rfl) (Reps.one (show Kd.M Kd.string _ _ _ a0_1 [.string a0_1] from rfl) (Reps.one (show Kd.M Kd.string _ _ _ ((⟨#[72, 84, 84, 80, 47, 49, 46]⟩ : ByteArray) ++ t658) [.string ((⟨#[72, 84, 84, 80, 47, 49, 46]⟩ : ByteArray) ++ t658)] from rfl) (Reps.none _ _))))); intro v660 w14 ho15 hb hg_ hnew_; clear hg_ hnew_; (first | rw [← Ny659.out] at ho15 | (simp only [Int.reduceToNat] at ho15; rw [← Ny659.out] at ho15)); have HO661 := aM (Kd.R_lower ho15 (below_size zB)); replace BK656 := aM (zX BK656.out hb); replace HB := aM (below_step zB hb); clear hb ho15))
   (try simp only [Act.put, List.setIfInBounds_toArray, List.set_cons_zero, List.set_cons_succ])
   go_cut [7] (fun v7 wc => ∃ (kq : Nat) (x7_6 : List ByteArray), Aside0 (head_Print.j0 kq x7_6 a0_0 a0_1 a0_2 a0_3 a0_4 l0_5 = some (r1, r2)) ∧ Aside0 (kq ≤ k) ∧ Aside0 (Kd.R Kd.string 9 wc w.heap.size (fun _ => True) v7 x7_6) ∧ Aside0 (wc.heap[gb656]? = some (.cells #[.string a0_0, .string a0_1, .int .i64 a0_2, .string a0_3, .int .i64 a0_4, (.slice A0_5 l0_5.length c0_5)] 29 (0, 0))) ∧ Aside0 (Below w.heap.size w wc))
   case first =>
    have H := HC7.out; clear HC7; by_cases c16 : a1 = true
    ·subst c16; rw [if_pos rfl] at H; replace H := Option.bind_eq_some_iff.mp H; obtain ⟨t662, A170, H⟩ := H; replace H : (head_Print.j0 k (([(⟨#[72, 84, 84, 80, 47, 49, 46]⟩ : ByteArray) ++ t658, t662, a0_3] : List ByteArray)) a0_0 a0_1 a0_2 a0_3 a0_4 l0_5) = some (r1, r2) := H; have A17 := aM A170; clear A170; obtain ⟨y663, hy663⟩ : ∃ y_ : List ByteArray, y_ = (([(⟨#[72, 84, 84, 80, 47, 49, 46]⟩ : ByteArray) ++ t658, t662, a0_3] : List ByteArray)) := ⟨_, rfl⟩; rw [← hy663] at H; have Ny663 := aM hy663; clear hy663; have H' := aM H; clear H
     try go_wp2
     replace HO661 := aM (rD HO661.out); replace BK656 := aM (bD BK656.out); replace HB := aM (lD HB.out)
     refine start_ (n := 8) (S := fun w' => w'.cell? ⟨gb656, 0, none⟩ = some (.string a0_0) ∧ w'.cell? ⟨gb656, 1, none⟩ = some (.string a0_1) ∧ w'.cell? ⟨gb656, 2, none⟩ = some (.int .i64 a0_2) ∧ w'.cell? ⟨gb656, 3, none⟩ = some (.string a0_3) ∧ w'.cell? ⟨gb656, 4, none⟩ = some (.int .i64 a0_4) ∧ w'.cell? ⟨gb656, 5, none⟩ = some (.slice A0_5 l0_5.length c0_5)) (ds := []) (dB 8 0) (by kernel_rfl) rfl rfl ⟨(blk_cell BK656.out 0).trans rfl, (blk_cell BK656.out 1).trans rfl, (blk_cell BK656.out 2).trans rfl, (blk_cell BK656.out 3).trans rfl, (blk_cell BK656.out 4).trans rfl, (blk_cell BK656.out 5).trans rfl⟩ (fun hHeld => ?_); refine with_tabW head_Print.tab6 head_Print.bits6 (fun HT_ HW_ => ?_)
     generalize w14.drew = w18 at HO661 BK656 HB hHeld ⊢
     refine pR 0 27 (dB 8 1) HT_.out ?_
     refine pR 1 28 (dB 8 3) HT_.out ?_
     refine pR 4 31 (dB 8 19) HT_.out ?_
     refine tR 2 29 (dB 8 23) HT_.out HW_.out hHeld ?_
     refine tR 5 32 (dB 8 55) HT_.out HW_.out hHeld ?_
     refine oR 3 30 (dB 8 63) HT_.out (fun K hK => ?_)
     refine goes_ Tryz.func34 (by kernel_rfl) rfl #[.int .i64 a0_2, .int .i64 10] (by rfl) rfl rfl zL ?_
     with_reducible refine (num_Text.calls a0_2 10 t662 _ ?side1 A17.out).mono ?_
     (case side1 => exact glob_below HG_.out zB)
     rintro e w19 ⟨rfl, hb⟩
     refine ⟨_, rfl, ?_⟩
     replace HO661 := aM (Kd.R_below (zO HO661.out) hb); replace BK656 := aM (zX BK656.out hb); replace HB := aM (below_step zB hb)
     (try clear hb)
     (try clear hb2)
     (try clear hk)
     (try clear hi)
     refine hK.out _ _ ⟨(blk_cell BK656.out 0).trans rfl, (blk_cell BK656.out 1).trans rfl, (blk_cell BK656.out 2).trans rfl, (blk_cell BK656.out 3).trans rfl, (blk_cell BK656.out 4).trans rfl, (blk_cell BK656.out 5).trans rfl⟩ (fun hHeld => ?_)
     clear hK K
     refine norm_ (a' := ?_) ?_ ?_
     rotate_left
     ·show Act.put _ (some 30) _ = _
      exact zP
     refine oR 6 33 (dB 8 127) HT_.out (fun K hK => ?_)
     refine Kd.R_lit_step Kd.string _ 9 ?hg (N := 33) ?hd (xs := ([(⟨#[72, 84, 84, 80, 47, 49, 46]⟩ : ByteArray) ++ t658, t662, a0_3] : List ByteArray)) (inner := [.string ((⟨#[72, 84, 84, 80, 47, 49, 46]⟩ : ByteArray) ++ t658), .string t662, .string a0_3]) (ok := fun _ => True) (okp := fun _ => True) ?hr ?hp (fun _ hk => hk) trivial (Below.refl _ _) (Nat.le_refl _) (by simp) ?_; (case hd => rfl); (case hg => rfl); (case hr => exact zG); (case hp => exact (Reps.one (show Kd.M Kd.string _ _ _ ((⟨#[72, 84, 84, 80, 47, 49, 46]⟩ : ByteArray) ++ t658) [.string ((⟨#[72, 84, 84, 80, 47, 49, 46]⟩ : ByteArray) ++ t658)] from rfl) (Reps.one (show Kd.M Kd.string _ _ _ t662 [.string t662] from rfl) (Reps.one (show Kd.M Kd.string _ _ _ a0_3 [.string a0_3] from rfl) (Reps.none _ _)))))
     intro v664 w20 ho21 hb hg_ hnew_; clear hg_ hnew_
     (first | rw [← Ny663.out] at ho21 | (simp only [Int.reduceToNat] at ho21; rw [← Ny663.out] at ho21))
     have HO665 := aM (Kd.R_lower (Kd.R_new' ho21 (Kd.R_lt (zO HO661.out))) (below_size zB)); replace HO661 := aM (Kd.R_elder' (zO HO661.out) (Kd.R_base ho21) hb); replace BK656 := aM (zX BK656.out hb); replace HB := aM (below_step zB hb); clear hb ho21
     refine hK.out _ _ ⟨(blk_cell BK656.out 0).trans rfl, (blk_cell BK656.out 1).trans rfl, (blk_cell BK656.out 2).trans rfl, (blk_cell BK656.out 3).trans rfl, (blk_cell BK656.out 4).trans rfl, (blk_cell BK656.out 5).trans rfl⟩ (fun hHeld => ?_)
     clear hK K
     refine norm_ (a' := ?_) ?_ ?_
     rotate_left
     ·show Act.put _ (some 33) _ = _
      exact zP
     refine pR 7 7 (dB 8 255) HT_.out ?_
     refine done_ (done_of HT_.out (by kernel_rfl)) ?_
     try go_wp2
     go_meet
     case rel => exact ⟨_, (y663), H', ⟨by first | omega | exact Nat.le_refl _⟩, ⟨by (with_reducible repeat (first | apply rA | apply rN | apply rD)); exact Kd.R_mono HO665.out (fun _ hk => trivial)⟩, ⟨zK BK656.out⟩, ⟨zB⟩⟩
    ·replace c16 := Bool.eq_false_iff.mpr c16; subst c16; rw [if_neg (show ¬ (false = true) by decide)] at H; have H' := aM H; clear H
     go_wp2
     go_meet
     case rel => exact ⟨_, (y659), H', ⟨by first | omega | exact Nat.le_refl _⟩, ⟨zO HO661.out⟩, ⟨zK BK656.out⟩, ⟨zB⟩⟩
   case rest =>
    clear HC7; (try clear c1); (try clear p2); (try clear c3); (try clear c4); (try clear c6); (try clear c6b0); (try clear c6b1); (try clear c6b2); (try clear c16); obtain ⟨kq, x7_6, HA, HJ6, HO_7, BK656, HB⟩ := hcut; cases kq with
    | zero => exact absurd HA.out (by simp [head_Print.j0])
    | succ kj6 =>
     have H := HA.out; clear HA; simp only [head_Print.j0] at H; replace H := Option.bind_eq_some_iff.mp H; obtain ⟨t666, A220, H⟩ := H; replace H : (head_Print.l0 kj6 (([t666] : List ByteArray)) l0_5 (l0_5.length : Int) 0) = some (r1, r2) := H; have A22 := aM A220; clear A220; obtain ⟨y667, hy667⟩ : ∃ y_ : List ByteArray, y_ = (([t666] : List ByteArray)) := ⟨_, rfl⟩; rw [← hy667] at H; have Ny667 := aM hy667; clear hy667; have H' := aM H; clear H; obtain ⟨Ao23, co23, eo23⟩ := Kd.R_slice HO_7.out; subst eo23
     go_wp2_with (first | ((with_reducible refine gate_callee (f := 58) rfl ?_); refine goesL_ (some 35) rfl rfl Tryz.func58 (by kernel_rfl) rfl #[.slice Ao23 x7_6.length co23, .string (⟨#[32]⟩ : ByteArray)] rfl zL ?_; (with_reducible refine (strings_Join.calls _ _ x7_6 (⟨#[32]⟩ : ByteArray) t666 _ ?side1 ?side2 A22.out).mono ?_); (case side1 => exact zC ((Kd.R_reads' HO_7.out).2.2)); (case side2 => exact (Kd.R_reads' HO_7.out).2.1); rintro e w24 ⟨rfl, hb⟩; refine ⟨_, rfl, ?_⟩; replace HO_7 := aM (Kd.R_below (zO HO_7.out) hb); replace BK656 := aM (zX BK656.out hb); replace HB := aM (below_step zB hb); clear hb) | ((with_reducible refine gate_dst (N := 36) rfl ?_); refine Kd.R_lit Kd.string _ 9 ?hg (N := 36) ?hd (xs := ([t666] : List ByteArray)) (inner := [.string t666]) (ok := fun _ => True) (okp := fun _ => True) ?hr ?hp (fun _ hk => hk) trivial (Below.refl _ _) (Nat.le_refl _) (by simp) ?_; (case hd => rfl); (case hg => rfl); (case hr => exact zG); (case hp => exact (Reps.one (show Kd.M Kd.string _ _ _ t666 [.string t666] from rfl) (Reps.none _ _))); intro v668 w25 ho26 hb hg_ hnew_; clear hg_ hnew_; (first | rw [← Ny667.out] at ho26 | (simp only [Int.reduceToNat] at ho26; rw [← Ny667.out] at ho26)); have HO669 := aM (Kd.R_lower (Kd.R_new' ho26 (Kd.R_lt (zO HO_7.out))) (below_size zB)); replace HO_7 := aM (Kd.R_elder' (zO HO_7.out) (Kd.R_base ho26) hb); replace BK656 := aM (zX BK656.out hb); replace HB := aM (below_step zB hb); clear hb ho26; obtain ⟨_, _, _, _, _, _, _, _, _, _, _, _⟩ := cz6 BK656.out))
     go_loopg [8, 40] kj6 (fun kq v8 v40 w' => ∃ (x8_2 : List ByteArray) (x40_2 : Int), v40 = .int .i64 x40_2 ∧ Aside0 (head_Print.l0 kq x8_2 l0_5 (l0_5.length : Int) x40_2 = some (r1, r2)) ∧ Aside0 (kq ≤ kj6) ∧ Aside0 (Kd.R Kd.string 9 w' w.heap.size (fun _ => True) v8 x8_2) ∧ Aside0 (w'.heap[gb656]? = some (.cells #[.string a0_0, .string a0_1, .int .i64 a0_2, .string a0_3, .int .i64 a0_4, (.slice A0_5 l0_5.length c0_5)] 29 (0, 0))) ∧ Aside0 (Below w.heap.size w w'))
     case atStart => exact ⟨(y667), (0), zR, H', ⟨Nat.le_refl _⟩, ⟨by (with_reducible repeat (first | apply rA | apply rN | apply rD)); exact Kd.R_mono HO669.out (fun _ hk => trivial)⟩, ⟨zK BK656.out⟩, ⟨zB⟩⟩
     case round =>
      clear H'; (try clear c1); (try clear p2); (try clear c3); (try clear c4); (try clear c5); (try clear c6); (try clear c6b0); (try clear c6b1); (try clear c6b2); (try clear c16); (try clear p2); obtain ⟨x8_2, x40_2, rfl, HA, HK2, HO_8, BK656, HB⟩ := hrel; cases gk with
      | zero => exact absurd HA.out (by simp [head_Print.l0])
      | succ k2 =>
       have H := HA.out; clear HA; simp only [head_Print.l0] at H; by_cases c28 : x40_2 < (l0_5.length : Int)
       ·rw [if_pos c28] at H; have c28b0 := decide_eq_true c28; clear c28; by_cases c29 : 0 ≤ x40_2
        ·rw [if_pos c29] at H; have c29b0 := decide_eq_true c29; clear c29; by_cases c30 : x40_2 < (l0_5.length : Int)
         ·rw [if_pos c30] at H; have c30b0 := decide_eq_true c30; clear c30; by_cases c31 : ((rd_T40 l0_5 x40_2).f0).size + 2 ≤ 9223372036854775807
          ·rw [if_pos c31] at H; have c31b0 := eq_true c31; have c31b1 := decide_eq_true c31
           try have c31b2 : (9223372036854775807 < ((rd_T40 l0_5 x40_2).f0).size + 2) = False := eq_false (Nat.not_lt.2 c31)
           by_cases c32 : (((rd_T40 l0_5 x40_2).f0) ++ (⟨#[58, 32]⟩ : ByteArray)).size + ((rd_T40 l0_5 x40_2).f1).size ≤ 9223372036854775807
           ·rw [if_pos c32] at H; have c32b0 := eq_true c32; have c32b1 := decide_eq_true c32
            try have c32b2 : (9223372036854775807 < (((rd_T40 l0_5 x40_2).f0) ++ (⟨#[58, 32]⟩ : ByteArray)).size + ((rd_T40 l0_5 x40_2).f1).size) = False := eq_false (Nat.not_lt.2 c32)
            try have c32b9 : (9223372036854775807 < ((rd_T40 l0_5 x40_2).f0).size + 2 + ((rd_T40 l0_5 x40_2).f1).size) = False := eq_false (Nat.not_lt.2 (by have z_ := c32; simp only [ByteArray.size_append] at z_; exact z_))
            try have c32b3 : (9223372036854775807 < ((rd_T40 l0_5 x40_2).f0).size + 2 + ((rd_T40 l0_5 x40_2).f1).size) = False := eq_false (Nat.not_lt.2 (by have z_ := c32; rw [ByteArray.size_append] at z_; exact z_))
            by_cases c33 : x8_2.length < 8796093022208
            ·rw [if_pos c33] at H; have LMc33 := aM c33; clear c33; obtain ⟨y672, hy672⟩ : ∃ y_ : List ByteArray, y_ = (x8_2 ++ [(((rd_T40 l0_5 x40_2).f0) ++ (⟨#[58, 32]⟩ : ByteArray)) ++ ((rd_T40 l0_5 x40_2).f1)]) := ⟨_, rfl⟩; (replace H : (head_Print.l0 k2 y672 l0_5 (l0_5.length : Int) (wrap64 (x40_2 + 1))) = some (r1, r2) := zN hy672 H); have Ny672 := aM hy672; clear hy672; have H' := aM H; clear H; have p670 : 0 ≤ (x40_2 : Int) := of_decide_eq_true zA; have q670 : x40_2 < (l0_5.length : Int) := of_decide_eq_true zA; obtain ⟨ad670, e670, hx670_0, hx670_1⟩ := at_T40 HR0_5.out x40_2 p670 q670; cases e670; replace hx670_0 := (HB.out.cell (World.block_lt_of_cell? w _ hx670_0)).trans hx670_0; replace hx670_1 := (HB.out.cell (World.block_lt_of_cell? w _ hx670_1)).trans hx670_1; replace p670 := eq_true p670; replace q670 := eq_true q670
             go_wp2_with (first | ((with_reducible refine gate_dst (N := 10) rfl ?_); refine box_event ?hg (N := 10) ?hd (cs := #[.string (⟨#[]⟩ : ByteArray), .string (⟨#[]⟩ : ByteArray)]) (t := 40) ?hr ?_; (case hd => rfl); (case hg => rfl); (case hr => exact zG); intro gb671 hg w34 hbox hb; replace HO_8 := aM (Kd.R_below (zO HO_8.out) hb); have BK671 := aM hbox; have GW671 := aM (by rw [hg]; exact (below_size zB) : w.heap.size ≤ gb671); replace HB := aM (below_step zB hb); have GE671 := GW671; have NB656_671 := aM (by rw [hg]; exact Nat.ne_of_lt (blk_lt (zK BK656.out)) : gb656 ≠ gb671); replace BK656 := aM (zX BK656.out hb); have NB671_656 := aM NB656_671.out.symm; clear hb hbox hg; have hnb35 := NB671_656.out; have hnc35 := NB656_671.out; obtain ⟨_, _, _, _⟩ := cz2 BK671.out) | ((with_reducible refine gate_builtin (b := .append) (xs := #[.tmp 44, .tmp 51]) rfl ?_); at_builtin; refine Kd.R_append Kd.string (w0 := w) w.heap.size rfl (.tmp 44) (.tmp 51) 57 9 (.string ⟨#[]⟩) 16 rfl Tryz.underlying57 info9 rfl (by decide) (by omega) u8 x8_2 ((((rd_T40 l0_5 x40_2).f0) ++ (⟨#[58, 32]⟩ : ByteArray)) ++ ((rd_T40 l0_5 x40_2).f1)) [.string ((((rd_T40 l0_5 x40_2).f0) ++ (⟨#[58, 32]⟩ : ByteArray)) ++ ((rd_T40 l0_5 x40_2).f1))] (fun _ => True) (fun _ => False) rfl (by first | (go_simp; done) | (go_simp; rfl)) ?aP (fun _ hk => hk.elim) ?aF ?aO ?aB ?aS ?aL ?_; (case aP => exact rfl); (case aB => exact zB); (case aF => exact (fun _ _ => trivial)); (case aO => exact (by (with_reducible repeat (first | apply rA | apply rN | apply rD)); exact Kd.R_mono (Kd.R_far (p := ⟨gb671, 1, none⟩) (Kd.R_far (p := ⟨gb671, 0, none⟩) (Kd.R_types HO_8.out BK671.out (by decide)) (fun _ hk => hk.2) (.string ((rd_T40 l0_5 x40_2).f0))) (fun _ hk => hk.2) (.string ((rd_T40 l0_5 x40_2).f1))) (fun _ hk => trivial))); (case aS => exact (below_size zB)); (case aL => have := LMc33.out; omega); intro v673 w37 ho hb hg hat; rw [← Ny672.out] at ho; replace BK656 := aM (blk_grown (g := gb656) (o := .cells #[.string a0_0, .string a0_1, .int .i64 a0_2, .string a0_3, .int .i64 a0_4, .slice (some ad670) l0_5.length c0_5] 29 (0, 0)) (zF BK656.out) hg (Kd.R_ne HO_8.out BK656.out (by decide))); replace BK671 := aM (blk_grown (g := gb671) (o := .cells #[.string ((rd_T40 l0_5 x40_2).f0), .string ((rd_T40 l0_5 x40_2).f1)] 40 (0, 0)) (zQ2 BK671.out) hg (Kd.R_ne HO_8.out BK671.out (by decide))); replace HB := aM hb; have HO674 := aM ho; clear HO_8; clear ho hb hg hat))
             go_roundg k2
             case measure => have := HJ6.out; have := HK2.out; omega
             case rel => exact ⟨(y672), (wrap64 (x40_2 + 1)), zR, H', ⟨by have := HJ6.out; have := HK2.out; omega⟩, ⟨zO HO674.out⟩, ⟨zK BK656.out⟩, ⟨zB⟩⟩
            ·exact zf c33 H
           ·exact zf c32 H
          ·exact zf c31 H
         ·exact zf c30 H
        ·exact zf c29 H
       ·rw [if_neg c28] at H; have c28b0 := decide_eq_false c28; clear c28; obtain ⟨t675, A38, H⟩ := zc H; (try dsimp only at H); by_cases c39 : (t675.size : Int) > 2000
        ·rw [if_pos c39] at H; have c39b0 := decide_eq_true c39; have c39b1 : decide (2000 < t675.size) = true := decide_eq_true (by omega); clear c39; simp only [Option.some.injEq, Prod.mk.injEq] at H; obtain ⟨rfl, rfl⟩ := H; obtain ⟨Ao40, co40, eo40⟩ := Kd.R_slice HO_8.out; subst eo40
         go_wp2_with (first | ((with_reducible refine gate_callee (f := 58) rfl ?_); refine goesL_ (some 55) rfl rfl Tryz.func58 (by kernel_rfl) rfl #[.slice Ao40 x8_2.length co40, .string (⟨#[13, 10]⟩ : ByteArray)] rfl zL ?_; (with_reducible refine (strings_Join.calls _ _ x8_2 (⟨#[13, 10]⟩ : ByteArray) t675 _ ?side1 ?side2 A38.out).mono ?_); (case side1 => exact zC ((Kd.R_reads' HO_8.out).2.2)); (case side2 => exact (Kd.R_reads' HO_8.out).2.1); rintro e w41 ⟨rfl, hb⟩; refine ⟨_, rfl, ?_⟩; replace HO_8 := aM (Kd.R_below (zO HO_8.out) hb); replace BK656 := aM (zX BK656.out hb); replace HB := aM (below_step zB hb); clear hb))
         go_ret2
         exact ⟨zE, zB⟩
        ·rw [if_neg c39] at H; have c39b0 := decide_eq_false c39; have c39b1 : decide (2000 < t675.size) = false := decide_eq_false (by omega); clear c39; by_cases c42 : t675.size + 2 ≤ 9223372036854775807
         ·rw [if_pos c42] at H; have c42b0 := eq_true c42; have c42b1 := decide_eq_true c42
          try have c42b2 : (9223372036854775807 < t675.size + 2) = False := eq_false (Nat.not_lt.2 c42)
          by_cases c43 : (t675 ++ (⟨#[13, 10]⟩ : ByteArray)).size + 2 ≤ 9223372036854775807
          ·rw [if_pos c43] at H; have c43b0 := eq_true c43; have c43b1 := decide_eq_true c43
           try have c43b2 : (9223372036854775807 < (t675 ++ (⟨#[13, 10]⟩ : ByteArray)).size + 2) = False := eq_false (Nat.not_lt.2 c43)
           try have c43b9 : (9223372036854775807 < t675.size + 2 + 2) = False := eq_false (Nat.not_lt.2 (by have z_ := c43; simp only [ByteArray.size_append] at z_; exact z_))
           try have c43b5 : (9223372036854775807 < t675.size + 2 + 2) = False := eq_false (Nat.not_lt.2 (by have z_ := c43; rw [ByteArray.size_append] at z_; exact z_))
           simp only [Option.some.injEq, Prod.mk.injEq] at H; obtain ⟨rfl, rfl⟩ := H; obtain ⟨Ao44, co44, eo44⟩ := Kd.R_slice HO_8.out; subst eo44
           go_wp2_with (first | ((with_reducible refine gate_callee (f := 58) rfl ?_); refine goesL_ (some 55) rfl rfl Tryz.func58 (by kernel_rfl) rfl #[.slice Ao44 x8_2.length co44, .string (⟨#[13, 10]⟩ : ByteArray)] rfl zL ?_; (with_reducible refine (strings_Join.calls _ _ x8_2 (⟨#[13, 10]⟩ : ByteArray) t675 _ ?side1 ?side2 A38.out).mono ?_); (case side1 => exact zC ((Kd.R_reads' HO_8.out).2.2)); (case side2 => exact (Kd.R_reads' HO_8.out).2.1); rintro e w45 ⟨rfl, hb⟩; refine ⟨_, rfl, ?_⟩; replace HO_8 := aM (Kd.R_below (zO HO_8.out) hb); replace BK656 := aM (zX BK656.out hb); replace HB := aM (below_step zB hb); clear hb))
           go_ret2
           exact ⟨zE, zB⟩
          ·exact zf c43 H
         ·exact zf c42 H
  ·exact zf c6 H
 ·replace c4 := Bool.eq_false_iff.mpr c4; subst c4; rw [if_neg (show ¬ (false = true) by decide)] at H; simp only [Option.some.injEq, Prod.mk.injEq] at H; obtain ⟨rfl, rfl⟩ := H
  go_enter Tryz.func35, Tryz.ntmps35
  go_wp2_with (first | ((with_reducible refine gate_dst (N := 2) rfl ?_); refine box_event ?hg (N := 2) ?hd (cs := #[.string a0_0, .string a0_1, .int .i64 a0_2, .string a0_3, .int .i64 a0_4, .slice A0_5 l0_5.length c0_5]) (t := 29) ?hr ?_; (case hd => rfl); (case hg => rfl); (case hr => exact zG); intro gb656 hg w46 hbox hb; have BK656 := aM hbox; have GW656 := aM (by rw [hg]; exact (below_size zB) : w.heap.size ≤ gb656); replace HB := aM (below_step zB hb); have GE656 := GW656; clear hb hbox hg; obtain ⟨_, _, _, _, _, _, _, _, _, _, _, _⟩ := cz6 BK656.out) | ((with_reducible refine gate_callee (f := 43) rfl ?_); refine goesL_ (some 14) rfl rfl Tryz.func43 (by kernel_rfl) rfl #[.agg #[.string a0_0, .string a0_1, .int .i64 a0_2, .string a0_3, .int .i64 a0_4, .slice A0_5 l0_5.length c0_5], .bool a1] rfl zL ?_; (with_reducible refine (head_Right.calls k a0_0 a0_1 a0_2 a0_3 a0_4 _ _ l0_5 a1 false _ ?side1 ?side2 A3.out).mono ?_); (case side1 => exact zC (Kd.C_below HR0_5.out HB.out)); (case side2 => exact HC0_5.out); rintro e w48 ⟨rfl, hb⟩; refine ⟨_, rfl, ?_⟩; replace BK656 := aM (zX BK656.out hb); replace HB := aM (below_step zB hb); clear hb))
  go_ret2
  exact ⟨zE, zB⟩

end Go.Proofs.YtapeodbgobkjeaaGreatDoor.P
