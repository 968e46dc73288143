/- Printed by a program of the session out of the translation: plain Lean functions, each with the contract that the Go function computes it. -/
import Derived.Test.YtapeodbgobkjeaaGreatDoorHZM
import Derived.Test.YtapeodbgobkjeaaGreatDoorPx0
import Derived.Test.YtapeodbgobkjeaaGreatDoorPx9
import Derived.Test.YtapeodbgobkjeaaGreatDoorHZC
namespace Go.Proofs.YtapeodbgobkjeaaGreatDoor.P
open Go.RowKit Go.Proofs.YtapeodbgobkjeaaGreatDoorW.PrintWords Go.Proofs.YtapeodbgobkjeaaGreatDoorW.PrintLast Go.Proofs.YtapeodbgobkjeaaGreatDoorW.PrintMore
attribute [local go_sem] max2_int min2_int max_two min_two max_three min_three max_four min_four   -- for this text's walks alone
set_option linter.unusedVariables false
set_option linter.unusedSimpArgs false

def frame_Request.f (k : Nat) (a0_0 : ByteArray) (a0_1 : ByteArray) (a0_2 : Int) (a0_3 : ByteArray) (a0_4 : Int) (l0_5 : List (S40)) : Option (Int × Int × Int) := (head_Right.f k a0_0 a0_1 a0_2 a0_3 a0_4 l0_5 false).bind fun t214 => (if t214 = true then ((frame_told.f k a0_0 a0_1 a0_2 a0_3 a0_4 l0_5).bind fun bt215 => ((frame_or.f bt215.1 bt215.2.1 bt215.2.2 1).bind fun bt219 => (some (bt219.1, bt219.2.1, bt219.2.2)))) else (some (0, 0, 1)))
theorem frame_Request.mono : ∀ a0 a1 a2 a3 a4 a5 k, LeO (frame_Request.f k a0 a1 a2 a3 a4 a5) (frame_Request.f (k + 1) a0 a1 a2 a3 a4 a5) := by
 intro a0 a1 a2 a3 a4 a5 k
 unfold frame_Request.f; have m0 := @frame_told.mono; have m1 := @head_Right.mono; exact zM
set_option maxHeartbeats 8000000 in
set_option maxRecDepth 100000 in
theorem frame_Request.calls (k : Nat) (a0_0 : ByteArray) (a0_1 : ByteArray) (a0_2 : Int) (a0_3 : ByteArray) (a0_4 : Int) (A0_5 : Option Addr) (c0_5 : Nat) (l0_5 : List (S40)) (r1 : Int) (r2 : Int) (r3 : Int) (w : World) (hr0_5 : Kd.C k40 w A0_5 l0_5.length l0_5) (hc0_5 : l0_5.length ≤ c0_5) (h : frame_Request.f k a0_0 a0_1 a0_2 a0_3 a0_4 l0_5 = some (r1, r2, r3)) :
  Calls Tryz.prog 113 #[.agg #[.string a0_0, .string a0_1, .int .i64 a0_2, .string a0_3, .int .i64 a0_4, .slice A0_5 l0_5.length c0_5]] w fun e w' => e = .returned (.tuple #[.agg #[.int .i64 r1, .int .i64 r2], .int .i64 r3]) ∧ Below w.heap.size w w' := by
 have hu29 := Tryz.underlying29; have hu24 := Tryz.underlying24; have HR0_5 := aM hr0_5; have HC0_5 := aM hc0_5; clear hr0_5 hc0_5; have HB := aM (Below.refl w.heap.size w); have H := h; unfold frame_Request.f at H; clear h; obtain ⟨t214, A2, H⟩ := zc H; (try dsimp only at H); by_cases c3 : t214 = true
 ·subst c3; rw [if_pos rfl] at H; replace H := Option.bind_eq_some_iff.mp H; obtain ⟨⟨t215, t216, t217⟩, A40, H⟩ := H; replace H : ((frame_or.f t215 t216 t217 1).bind fun bt219 => (some (bt219.1, bt219.2.1, bt219.2.2))) = some (r1, r2, r3) := H; have A4 := aM A40; clear A40; replace H := Option.bind_eq_some_iff.mp H; obtain ⟨⟨t219, t220, t221⟩, A50, H⟩ := H; replace H : (some (t219, t220, t221)) = some (r1, r2, r3) := H; have A5 := aM A50; clear A50; simp only [Option.some.injEq, Prod.mk.injEq] at H; obtain ⟨rfl, rfl, rfl⟩ := H
  go_enter Tryz.func113, Tryz.ntmps113
  go_wp2_with (first | ((with_reducible refine gate_dst (N := 1) rfl ?_); refine box_event ?hg (N := 1) ?hd (cs := #[.string a0_0, .string a0_1, .int .i64 a0_2, .string a0_3, .int .i64 a0_4, .slice A0_5 l0_5.length c0_5]) (t := 29) ?hr ?_; (case hd => rfl); (case hg => rfl); (case hr => exact zG); intro gb212 hg w6 hbox hb; have BK212 := aM hbox; have GW212 := aM (by rw [hg]; exact (below_size zB) : w.heap.size ≤ gb212); replace HB := aM (below_step zB hb); have GE212 := GW212; clear hb hbox hg) | ((with_reducible refine gate_dst (N := 2) rfl ?_); refine box_event ?hg (N := 2) ?hd (cs := #[.int .i64 0, .int .i64 0]) (t := 24) ?hr ?_; (case hd => rfl); (case hg => rfl); (case hr => exact zG); intro gb213 hg w7 hbox hb; have BK213 := aM hbox; have GW213 := aM (by rw [hg]; exact (below_size zB) : w.heap.size ≤ gb213); replace HB := aM (below_step zB hb); have GE213 := GW213; have NB212_213 := aM (by rw [hg]; exact Nat.ne_of_lt (blk_lt (zK BK212.out)) : gb212 ≠ gb213); replace BK212 := aM (zX BK212.out hb); have NB213_212 := aM NB212_213.out.symm; clear hb hbox hg; have hnb8 := NB212_213.out; have hnc8 := NB213_212.out; obtain ⟨_, _, _, _, _, _, _, _, _, _, _, _⟩ := cz6 BK212.out) | ((with_reducible refine gate_callee (f := 43) rfl ?_); refine goesL_ (some 7) rfl rfl Tryz.func43 (by kernel_rfl) rfl #[.agg #[.string a0_0, .string a0_1, .int .i64 a0_2, .string a0_3, .int .i64 a0_4, .slice A0_5 l0_5.length c0_5], .bool false] rfl zL ?_; (with_reducible refine (head_Right.calls k a0_0 a0_1 a0_2 a0_3 a0_4 _ _ l0_5 false true _ ?side1 ?side2 A2.out).mono ?_); (case side1 => exact zC (Kd.C_below HR0_5.out HB.out)); (case side2 => exact HC0_5.out); rintro e w10 ⟨rfl, hb⟩; refine ⟨_, rfl, ?_⟩; replace BK212 := aM (zX BK212.out hb); replace BK213 := aM (zX BK213.out hb); replace HB := aM (below_step zB hb); clear hb; obtain ⟨_, _, _, _, _, _, _, _, _, _, _, _⟩ := cz6 BK212.out) | ((with_reducible refine gate_callee (f := 138) rfl ?_); refine goesL_ (some 12) rfl rfl Tryz.func138 (by kernel_rfl) rfl #[.agg #[.string a0_0, .string a0_1, .int .i64 a0_2, .string a0_3, .int .i64 a0_4, .slice A0_5 l0_5.length c0_5]] rfl zL ?_; (with_reducible refine (frame_told.calls k a0_0 a0_1 a0_2 a0_3 a0_4 _ _ l0_5 t215 t216 t217 _ ?side1 ?side2 A4.out).mono ?_); (case side1 => exact zC (Kd.C_below HR0_5.out HB.out)); (case side2 => exact HC0_5.out); rintro e w12 ⟨rfl, hb⟩; refine ⟨_, rfl, ?_⟩; replace BK212 := aM (zX BK212.out hb); replace BK213 := aM (zX BK213.out hb); replace HB := aM (below_step zB hb); clear hb) | ((with_reducible refine gate_dst (N := 4) rfl ?_); refine box_event ?hg (N := 4) ?hd (cs := #[.int .i64 0, .int .i64 0]) (t := 24) ?hr ?_; (case hd => rfl); (case hg => rfl); (case hr => exact zG); intro gb218 hg w13 hbox hb; have BK218 := aM hbox; have GW218 := aM (by rw [hg]; exact (below_size zB) : w.heap.size ≤ gb218); replace HB := aM (below_step zB hb); have GE218 := GW218; have NB212_218 := aM (by rw [hg]; exact Nat.ne_of_lt (blk_lt (zK BK212.out)) : gb212 ≠ gb218); replace BK212 := aM (zX BK212.out hb); have NB218_212 := aM NB212_218.out.symm; have NB213_218 := aM (by rw [hg]; exact Nat.ne_of_lt (blk_lt (zK BK213.out)) : gb213 ≠ gb218); replace BK213 := aM (zX BK213.out hb); have NB218_213 := aM NB213_218.out.symm; clear hb hbox hg; have hnb14 := NB218_212.out; have hnc14 := NB212_218.out; have hnb15 := NB218_213.out; have hnc15 := NB213_218.out; obtain ⟨_, _, _, _⟩ := cz2 BK218.out) | ((with_reducible refine gate_callee (f := 139) rfl ?_); refine goesL_ (some 17) rfl rfl Tryz.func139 (by kernel_rfl) rfl #[.agg #[.int .i64 t215, .int .i64 t216], .int .i64 t217, .int .i64 1] rfl zL ?_; (with_reducible refine (frame_or.calls t215 t216 t217 1 t219 t220 t221 _ A5.out).mono ?_); rintro e w17 ⟨rfl, hb⟩; refine ⟨_, rfl, ?_⟩; replace BK212 := aM (blk_below (g := gb212) (o := .cells #[.string a0_0, .string a0_1, .int .i64 a0_2, .string a0_3, .int .i64 a0_4, .slice A0_5 l0_5.length c0_5] 29 (0, 0)) (zF BK212.out) hb); replace BK213 := aM (blk_below (g := gb213) (o := .cells #[.int .i64 0, .int .i64 0] 24 (0, 0)) (zF BK213.out) hb); replace BK218 := aM (blk_below (g := gb218) (o := .cells #[.int .i64 t215, .int .i64 t216] 24 (0, 0)) (zQ2 BK218.out) hb); replace HB := aM (below_step zB hb); clear hb; obtain ⟨_, _, _, _⟩ := cz2 BK213.out))
  refine bodyPost_ret (results_ct rfl _ _ gb213 24 #[.int .i64 t219, .int .i64 t220] (0, 0) _ rfl (zQ2 BK213.out) Tryz.underlying24 rfl (by kernel_rfl)) rfl ?_
  exact ⟨zE, zB⟩
 ·replace c3 := Bool.eq_false_iff.mpr c3; subst c3; rw [if_neg (show ¬ (false = true) by decide)] at H; simp only [Option.some.injEq, Prod.mk.injEq] at H; obtain ⟨rfl, rfl, rfl⟩ := H
  go_enter Tryz.func113, Tryz.ntmps113
  go_wp2_with (first | ((with_reducible refine gate_dst (N := 1) rfl ?_); refine box_event ?hg (N := 1) ?hd (cs := #[.string a0_0, .string a0_1, .int .i64 a0_2, .string a0_3, .int .i64 a0_4, .slice A0_5 l0_5.length c0_5]) (t := 29) ?hr ?_; (case hd => rfl); (case hg => rfl); (case hr => exact zG); intro gb212 hg w19 hbox hb; have BK212 := aM hbox; have GW212 := aM (by rw [hg]; exact (below_size zB) : w.heap.size ≤ gb212); replace HB := aM (below_step zB hb); have GE212 := GW212; clear hb hbox hg) | ((with_reducible refine gate_dst (N := 2) rfl ?_); refine box_event ?hg (N := 2) ?hd (cs := #[.int .i64 0, .int .i64 0]) (t := 24) ?hr ?_; (case hd => rfl); (case hg => rfl); (case hr => exact zG); intro gb213 hg w20 hbox hb; have BK213 := aM hbox; have GW213 := aM (by rw [hg]; exact (below_size zB) : w.heap.size ≤ gb213); replace HB := aM (below_step zB hb); have GE213 := GW213; have NB212_213 := aM (by rw [hg]; exact Nat.ne_of_lt (blk_lt (zK BK212.out)) : gb212 ≠ gb213); replace BK212 := aM (zX BK212.out hb); have NB213_212 := aM NB212_213.out.symm; clear hb hbox hg; have hnb21 := NB212_213.out; have hnc21 := NB213_212.out; obtain ⟨_, _, _, _, _, _, _, _, _, _, _, _⟩ := cz6 BK212.out) | ((with_reducible refine gate_callee (f := 43) rfl ?_); refine goesL_ (some 7) rfl rfl Tryz.func43 (by kernel_rfl) rfl #[.agg #[.string a0_0, .string a0_1, .int .i64 a0_2, .string a0_3, .int .i64 a0_4, .slice A0_5 l0_5.length c0_5], .bool false] rfl zL ?_; (with_reducible refine (head_Right.calls k a0_0 a0_1 a0_2 a0_3 a0_4 _ _ l0_5 false false _ ?side1 ?side2 A2.out).mono ?_); (case side1 => exact zC (Kd.C_below HR0_5.out HB.out)); (case side2 => exact HC0_5.out); rintro e w23 ⟨rfl, hb⟩; refine ⟨_, rfl, ?_⟩; replace BK212 := aM (zX BK212.out hb); replace BK213 := aM (zX BK213.out hb); replace HB := aM (below_step zB hb); clear hb; obtain ⟨_, _, _, _⟩ := cz2 BK213.out))
  refine bodyPost_ret (results_ct rfl _ _ gb213 24 #[.int .i64 0, .int .i64 0] (0, 0) _ rfl (zQ2 BK213.out) Tryz.underlying24 rfl (by kernel_rfl)) rfl ?_
  exact ⟨zE, zB⟩

def frame_Answer.j0 : Nat → Int → Bool → Int → Int → Option (Int × Int × Int)
 | 0, _, _, _, _ => none
 | k + 1, x7, x8, x229000, x229001 => if x7 = 0 then (if x8 = true then (some (1, 0, 0)) else ((frame_or.f x229000 x229001 x7 4).bind fun bt229 => (some (bt229.1, bt229.2.1, bt229.2.2)))) else ((frame_or.f x229000 x229001 x7 4).bind fun bt232 => (some (bt232.1, bt232.2.1, bt232.2.2)))
def frame_Answer.f (k : Nat) (a0_0 : ByteArray) (a0_1 : ByteArray) (a0_2 : Int) (a0_3 : ByteArray) (a0_4 : Int) (l0_5 : List (S40)) (a1 : ByteArray) : Option (Int × Int × Int) := (head_Right.f k a0_0 a0_1 a0_2 a0_3 a0_4 l0_5 true).bind fun t224 => (if t224 = true then ((frame_told.f k a0_0 a0_1 a0_2 a0_3 a0_4 l0_5).bind fun bt225 => (if a1.toList = ([72, 69, 65, 68] : List UInt8) then (frame_Answer.j0 k bt225.2.2 true bt225.1 bt225.2.1) else (if a0_2 < 200 then (frame_Answer.j0 k bt225.2.2 true bt225.1 bt225.2.1) else (if a0_2 = 204 then (frame_Answer.j0 k bt225.2.2 true bt225.1 bt225.2.1) else (frame_Answer.j0 k bt225.2.2 (a0_2 == 304) bt225.1 bt225.2.1))))) else (some (0, 0, 1)))
theorem frame_Answer.mono_l : ∀ k, (∀ y0 y1 y2 y3, LeO (frame_Answer.j0 k y0 y1 y2 y3) (frame_Answer.j0 (k + 1) y0 y1 y2 y3))
 | 0 => fun _ _ _ _ r h => by simp [frame_Answer.j0] at h
 | k + 1 => by
  have ih0 := frame_Answer.mono_l k
  ·intro y0 y1 y2 y3
   unfold frame_Answer.j0; have m0 := @frame_told.mono; have m1 := @head_Right.mono; exact zM
theorem frame_Answer.mono : ∀ a0 a1 a2 a3 a4 a5 a6 k, LeO (frame_Answer.f k a0 a1 a2 a3 a4 a5 a6) (frame_Answer.f (k + 1) a0 a1 a2 a3 a4 a5 a6) := by
 intro a0 a1 a2 a3 a4 a5 a6 k
 have ih0 := frame_Answer.mono_l k
 unfold frame_Answer.f; have m0 := @frame_told.mono; have m1 := @head_Right.mono; exact zM
set_option maxHeartbeats 8000000 in
set_option maxRecDepth 100000 in
theorem frame_Answer.calls (k : Nat) (a0_0 : ByteArray) (a0_1 : ByteArray) (a0_2 : Int) (a0_3 : ByteArray) (a0_4 : Int) (A0_5 : Option Addr) (c0_5 : Nat) (l0_5 : List (S40)) (a1 : ByteArray) (r1 : Int) (r2 : Int) (r3 : Int) (w : World) (hr0_5 : Kd.C k40 w A0_5 l0_5.length l0_5) (hc0_5 : l0_5.length ≤ c0_5) (h : frame_Answer.f k a0_0 a0_1 a0_2 a0_3 a0_4 l0_5 a1 = some (r1, r2, r3)) :
  Calls Tryz.prog 112 #[.agg #[.string a0_0, .string a0_1, .int .i64 a0_2, .string a0_3, .int .i64 a0_4, .slice A0_5 l0_5.length c0_5], .string a1] w fun e w' => e = .returned (.tuple #[.agg #[.int .i64 r1, .int .i64 r2], .int .i64 r3]) ∧ Below w.heap.size w w' := by
 have hu29 := Tryz.underlying29; have hu24 := Tryz.underlying24; have HR0_5 := aM hr0_5; have HC0_5 := aM hc0_5; clear hr0_5 hc0_5; have HB := aM (Below.refl w.heap.size w); have H := h; unfold frame_Answer.f at H; clear h; obtain ⟨t224, A3, H⟩ := zc H; (try dsimp only at H); by_cases c4 : t224 = true
 ·subst c4; rw [if_pos rfl] at H; obtain ⟨⟨t225, t226, t227⟩, A5, H⟩ := zc H; (try dsimp only at H); have HC6 := aM H; clear H
  go_enter Tryz.func112, Tryz.ntmps112
  go_upto_region 4 with (first | ((with_reducible refine gate_dst (N := 2) rfl ?_); refine box_event ?hg (N := 2) ?hd (cs := #[.string a0_0, .string a0_1, .int .i64 a0_2, .string a0_3, .int .i64 a0_4, .slice A0_5 l0_5.length c0_5]) (t := 29) ?hr ?_; (case hd => rfl); (case hg => rfl); (case hr => exact zG); intro gb222 hg w7 hbox hb; have BK222 := aM hbox; have GW222 := aM (by rw [hg]; exact (below_size zB) : w.heap.size ≤ gb222); replace HB := aM (below_step zB hb); have GE222 := GW222; clear hb hbox hg) | ((with_reducible refine gate_dst (N := 4) rfl ?_); refine box_event ?hg (N := 4) ?hd (cs := #[.int .i64 0, .int .i64 0]) (t := 24) ?hr ?_; (case hd => rfl); (case hg => rfl); (case hr => exact zG); intro gb223 hg w8 hbox hb; have BK223 := aM hbox; have GW223 := aM (by rw [hg]; exact (below_size zB) : w.heap.size ≤ gb223); replace HB := aM (below_step zB hb); have GE223 := GW223; have NB222_223 := aM (by rw [hg]; exact Nat.ne_of_lt (blk_lt (zK BK222.out)) : gb222 ≠ gb223); replace BK222 := aM (zX BK222.out hb); have NB223_222 := aM NB222_223.out.symm; clear hb hbox hg; have hnb9 := NB222_223.out; have hnc9 := NB223_222.out; obtain ⟨_, _, _, _, _, _, _, _, _, _, _, _⟩ := cz6 BK222.out) | ((with_reducible refine gate_callee (f := 43) rfl ?_); refine goesL_ (some 10) rfl rfl Tryz.func43 (by kernel_rfl) rfl #[.agg #[.string a0_0, .string a0_1, .int .i64 a0_2, .string a0_3, .int .i64 a0_4, .slice A0_5 l0_5.length c0_5], .bool true] rfl zL ?_; (with_reducible refine (head_Right.calls k a0_0 a0_1 a0_2 a0_3 a0_4 _ _ l0_5 true true _ ?side1 ?side2 A3.out).mono ?_); (case side1 => exact zC (Kd.C_below HR0_5.out HB.out)); (case side2 => exact HC0_5.out); rintro e w11 ⟨rfl, hb⟩; refine ⟨_, rfl, ?_⟩; replace BK222 := aM (zX BK222.out hb); replace BK223 := aM (zX BK223.out hb); replace HB := aM (below_step zB hb); clear hb; obtain ⟨_, _, _, _, _, _, _, _, _, _, _, _⟩ := cz6 BK222.out) | ((with_reducible refine gate_callee (f := 138) rfl ?_); refine goesL_ (some 15) rfl rfl Tryz.func138 (by kernel_rfl) rfl #[.agg #[.string a0_0, .string a0_1, .int .i64 a0_2, .string a0_3, .int .i64 a0_4, .slice A0_5 l0_5.length c0_5]] rfl zL ?_; (with_reducible refine (frame_told.calls k a0_0 a0_1 a0_2 a0_3 a0_4 _ _ l0_5 t225 t226 t227 _ ?side1 ?side2 A5.out).mono ?_); (case side1 => exact zC (Kd.C_below HR0_5.out HB.out)); (case side2 => exact HC0_5.out); rintro e w13 ⟨rfl, hb⟩; refine ⟨_, rfl, ?_⟩; replace BK222 := aM (zX BK222.out hb); replace BK223 := aM (zX BK223.out hb); replace HB := aM (below_step zB hb); clear hb) | ((with_reducible refine gate_dst (N := 6) rfl ?_); refine box_event ?hg (N := 6) ?hd (cs := #[.int .i64 0, .int .i64 0]) (t := 24) ?hr ?_; (case hd => rfl); (case hg => rfl); (case hr => exact zG); intro gb228 hg w14 hbox hb; have BK228 := aM hbox; have GW228 := aM (by rw [hg]; exact (below_size zB) : w.heap.size ≤ gb228); replace HB := aM (below_step zB hb); have GE228 := GW228; have NB222_228 := aM (by rw [hg]; exact Nat.ne_of_lt (blk_lt (zK BK222.out)) : gb222 ≠ gb228); replace BK222 := aM (zX BK222.out hb); have NB228_222 := aM NB222_228.out.symm; have NB223_228 := aM (by rw [hg]; exact Nat.ne_of_lt (blk_lt (zK BK223.out)) : gb223 ≠ gb228); replace BK223 := aM (zX BK223.out hb); have NB228_223 := aM NB223_228.out.symm; clear hb hbox hg; have hnb15 := NB228_222.out; have hnc15 := NB222_228.out; have hnb16 := NB228_223.out; have hnc16 := NB223_228.out; obtain ⟨_, _, _, _⟩ := cz2 BK228.out))
  (try simp only [Act.put, List.setIfInBounds_toArray, List.set_cons_zero, List.set_cons_succ])
  go_cut [8] (fun v8 wc => ∃ (kq : Nat) (x8_5 : Bool), v8 = .bool x8_5 ∧ Aside0 (frame_Answer.j0 kq t227 x8_5 t225 t226 = some (r1, r2, r3)) ∧ Aside0 (kq ≤ k) ∧ Aside0 (wc.heap[gb222]? = some (.cells #[.string a0_0, .string a0_1, .int .i64 a0_2, .string a0_3, .int .i64 a0_4, (.slice A0_5 l0_5.length c0_5)] 29 (0, 0))) ∧ Aside0 (wc.heap[gb223]? = some (.cells #[.int .i64 0, .int .i64 0] 24 (0, 0))) ∧ Aside0 (wc.heap[gb228]? = some (.cells #[.int .i64 t225, .int .i64 t226] 24 (0, 0))) ∧ Aside0 (Below w.heap.size w wc))
  case first =>
   have H := HC6.out; clear HC6; by_cases c18 : a1.toList = ([72, 69, 65, 68] : List UInt8)
   ·rw [if_pos c18] at H; obtain ⟨c18b0, c18b1⟩ := zd c18; clear c18
    (first | rw [c18b0] | (simp only [i64_w, i32_w]; rw [c18b0]) | skip)
    have H' := aM H; clear H
    go_wp2
    go_meet
    case rel => exact ⟨_, (true), zR, H', ⟨by first | omega | exact Nat.le_refl _⟩, ⟨zF BK222.out⟩, ⟨zF BK223.out⟩, ⟨zQ2 BK228.out⟩, ⟨zB⟩⟩
   ·rw [if_neg c18] at H; obtain ⟨c18b0, c18b1⟩ := ze c18
    (first | rw [c18b0] | (simp only [i64_w, i32_w]; rw [c18b0]) | skip)
    by_cases c19 : a0_2 < 200
    ·rw [if_pos c19] at H; have c19b0 := decide_eq_true c19; clear c19; have H' := aM H; clear H; have hnb20 := NB222_223.out; have hnc20 := NB223_222.out; have hnb21 := NB222_228.out; have hnc21 := NB228_222.out; obtain ⟨_, _, _, _, _, _, _, _, _, _, _, _⟩ := cz6 BK222.out
     go_wp2
     go_meet
     case rel => exact ⟨_, (true), zR, H', ⟨by first | omega | exact Nat.le_refl _⟩, ⟨zF BK222.out⟩, ⟨zF BK223.out⟩, ⟨zQ2 BK228.out⟩, ⟨zB⟩⟩
    ·rw [if_neg c19] at H; have c19b0 := decide_eq_false c19; clear c19; by_cases c23 : a0_2 = 204
     ·rw [if_pos c23] at H; obtain ⟨c23b0, c23b1⟩ := zd c23; clear c23; have H' := aM H; clear H; have hnb24 := NB222_223.out; have hnc24 := NB223_222.out; have hnb25 := NB222_228.out; have hnc25 := NB228_222.out; obtain ⟨_, _, _, _, _, _, _, _, _, _, _, _⟩ := cz6 BK222.out
      go_wp2
      go_meet
      case rel => exact ⟨_, (true), zR, H', ⟨by first | omega | exact Nat.le_refl _⟩, ⟨zF BK222.out⟩, ⟨zF BK223.out⟩, ⟨zQ2 BK228.out⟩, ⟨zB⟩⟩
     ·rw [if_neg c23] at H; obtain ⟨c23b0, c23b1⟩ := ze c23; have H' := aM H; clear H; have hnb27 := NB222_223.out; have hnc27 := NB223_222.out; have hnb28 := NB222_228.out; have hnc28 := NB228_222.out; obtain ⟨_, _, _, _, _, _, _, _, _, _, _, _⟩ := cz6 BK222.out
      go_wp2
      go_meet
      case rel => exact ⟨_, ((a0_2 == 304)), zR, H', ⟨by first | omega | exact Nat.le_refl _⟩, ⟨zF BK222.out⟩, ⟨zF BK223.out⟩, ⟨zQ2 BK228.out⟩, ⟨zB⟩⟩
  case rest =>
   clear HC6; (try clear c1); (try clear c2); (try clear p2); (try clear c4); (try clear c9); (try clear c11); (try clear c13); (try clear c15); (try clear c16); (try clear c18); (try clear c18b0); (try clear c18b1); (try clear c19); (try clear c19b0); (try clear c20); (try clear c21); (try clear c23); (try clear c23b0); (try clear c23b1); (try clear c24); (try clear c25); (try clear c27); (try clear c28); obtain ⟨kq, x8_5, rfl, HA, HJ5, BK222, BK223, BK228, HB⟩ := hcut; cases kq with
   | zero => exact absurd HA.out (by simp [frame_Answer.j0])
   | succ kj5 =>
    have H := HA.out; clear HA; simp only [frame_Answer.j0] at H; by_cases c30 : t227 = 0
    ·rw [if_pos c30] at H; obtain ⟨c30b0, c30b1⟩ := zd c30; clear c30; by_cases c31 : x8_5 = true
     ·subst c31; rw [if_pos rfl] at H; simp only [Option.some.injEq, Prod.mk.injEq] at H; obtain ⟨rfl, rfl, rfl⟩ := H; have hnb32 := NB223_222.out; have hnc32 := NB222_223.out; have hnb33 := NB223_228.out; have hnc33 := NB228_223.out; obtain ⟨_, _, _, _⟩ := cz2 BK223.out
      go_wp2
      refine bodyPost_ret (results_ct rfl _ _ gb223 24 #[.int .i64 1, .int .i64 0] (0, 0) _ rfl (zQ2 BK223.out) Tryz.underlying24 rfl (by kernel_rfl)) rfl ?_
      exact ⟨zE, zB⟩
     ·replace c31 := Bool.eq_false_iff.mpr c31; subst c31; rw [if_neg (show ¬ (false = true) by decide)] at H; replace H := Option.bind_eq_some_iff.mp H; obtain ⟨⟨t229, t230, t231⟩, A350, H⟩ := H; replace H : (some (t229, t230, t231)) = some (r1, r2, r3) := H; have A35 := aM A350; clear A350; simp only [Option.some.injEq, Prod.mk.injEq] at H; obtain ⟨rfl, rfl, rfl⟩ := H; have hnb36 := NB228_222.out; have hnc36 := NB222_228.out; have hnb37 := NB228_223.out; have hnc37 := NB223_228.out; obtain ⟨_, _, _, _⟩ := cz2 BK228.out
      go_wp2_with (first | ((with_reducible refine gate_callee (f := 139) rfl ?_); refine goesL_ (some 43) rfl rfl Tryz.func139 (by kernel_rfl) rfl #[.agg #[.int .i64 t225, .int .i64 t226], .int .i64 t227, .int .i64 4] rfl zL ?_; (with_reducible refine (frame_or.calls t225 t226 t227 4 t229 t230 t231 _ A35.out).mono ?_); rintro e w39 ⟨rfl, hb⟩; refine ⟨_, rfl, ?_⟩; replace BK222 := aM (zX BK222.out hb); replace BK223 := aM (zX BK223.out hb); replace BK228 := aM (zX BK228.out hb); replace HB := aM (below_step zB hb); clear hb; have hnb40 := NB223_222.out; have hnc40 := NB222_223.out; obtain ⟨_, _, _, _⟩ := cz2 BK223.out))
      refine bodyPost_ret (results_ct rfl _ _ gb223 24 #[.int .i64 t229, .int .i64 t230] (0, 0) _ rfl (zQ2 BK223.out) Tryz.underlying24 rfl (by kernel_rfl)) rfl ?_
      exact ⟨zE, zB⟩
    ·rw [if_neg c30] at H; obtain ⟨c30b0, c30b1⟩ := ze c30; replace H := Option.bind_eq_some_iff.mp H; obtain ⟨⟨t232, t233, t234⟩, A420, H⟩ := H; replace H : (some (t232, t233, t234)) = some (r1, r2, r3) := H; have A42 := aM A420; clear A420; simp only [Option.some.injEq, Prod.mk.injEq] at H; obtain ⟨rfl, rfl, rfl⟩ := H; have hnb43 := NB228_222.out; have hnc43 := NB222_228.out; have hnb44 := NB228_223.out; have hnc44 := NB223_228.out; obtain ⟨_, _, _, _⟩ := cz2 BK228.out
     go_wp2_with (first | ((with_reducible refine gate_callee (f := 139) rfl ?_); refine goesL_ (some 43) rfl rfl Tryz.func139 (by kernel_rfl) rfl #[.agg #[.int .i64 t225, .int .i64 t226], .int .i64 t227, .int .i64 4] rfl zL ?_; (with_reducible refine (frame_or.calls t225 t226 t227 4 t232 t233 t234 _ A42.out).mono ?_); rintro e w46 ⟨rfl, hb⟩; refine ⟨_, rfl, ?_⟩; replace BK222 := aM (zX BK222.out hb); replace BK223 := aM (zX BK223.out hb); replace BK228 := aM (zX BK228.out hb); replace HB := aM (below_step zB hb); clear hb; have hnb47 := NB223_222.out; have hnc47 := NB222_223.out; obtain ⟨_, _, _, _⟩ := cz2 BK223.out))
     refine bodyPost_ret (results_ct rfl _ _ gb223 24 #[.int .i64 t232, .int .i64 t233] (0, 0) _ rfl (zQ2 BK223.out) Tryz.underlying24 rfl (by kernel_rfl)) rfl ?_
     exact ⟨zE, zB⟩
 ·replace c4 := Bool.eq_false_iff.mpr c4; subst c4; rw [if_neg (show ¬ (false = true) by decide)] at H; simp only [Option.some.injEq, Prod.mk.injEq] at H; obtain ⟨rfl, rfl, rfl⟩ := H
  go_enter Tryz.func112, Tryz.ntmps112
  go_wp2_with (first | ((with_reducible refine gate_dst (N := 2) rfl ?_); refine box_event ?hg (N := 2) ?hd (cs := #[.string a0_0, .string a0_1, .int .i64 a0_2, .string a0_3, .int .i64 a0_4, .slice A0_5 l0_5.length c0_5]) (t := 29) ?hr ?_; (case hd => rfl); (case hg => rfl); (case hr => exact zG); intro gb222 hg w49 hbox hb; have BK222 := aM hbox; have GW222 := aM (by rw [hg]; exact (below_size zB) : w.heap.size ≤ gb222); replace HB := aM (below_step zB hb); have GE222 := GW222; clear hb hbox hg) | ((with_reducible refine gate_dst (N := 4) rfl ?_); refine box_event ?hg (N := 4) ?hd (cs := #[.int .i64 0, .int .i64 0]) (t := 24) ?hr ?_; (case hd => rfl); (case hg => rfl); (case hr => exact zG); intro gb223 hg w50 hbox hb; have BK223 := aM hbox; have GW223 := aM (by rw [hg]; exact (below_size zB) : w.heap.size ≤ gb223); replace HB := aM (below_step zB hb); have GE223 := GW223; have NB222_223 := aM (by rw [hg]; exact Nat.ne_of_lt (blk_lt (zK BK222.out)) : gb222 ≠ gb223); replace BK222 := aM (zX BK222.out hb); have NB223_222 := aM NB222_223.out.symm; clear hb hbox hg; have hnb51 := NB222_223.out; have hnc51 := NB223_222.out; obtain ⟨_, _, _, _, _, _, _, _, _, _, _, _⟩ := cz6 BK222.out) | ((with_reducible refine gate_callee (f := 43) rfl ?_); refine goesL_ (some 10) rfl rfl Tryz.func43 (by kernel_rfl) rfl #[.agg #[.string a0_0, .string a0_1, .int .i64 a0_2, .string a0_3, .int .i64 a0_4, .slice A0_5 l0_5.length c0_5], .bool true] rfl zL ?_; (with_reducible refine (head_Right.calls k a0_0 a0_1 a0_2 a0_3 a0_4 _ _ l0_5 true false _ ?side1 ?side2 A3.out).mono ?_); (case side1 => exact zC (Kd.C_below HR0_5.out HB.out)); (case side2 => exact HC0_5.out); rintro e w53 ⟨rfl, hb⟩; refine ⟨_, rfl, ?_⟩; replace BK222 := aM (zX BK222.out hb); replace BK223 := aM (zX BK223.out hb); replace HB := aM (below_step zB hb); clear hb; obtain ⟨_, _, _, _⟩ := cz2 BK223.out))
  refine bodyPost_ret (results_ct rfl _ _ gb223 24 #[.int .i64 0, .int .i64 0] (0, 0) _ rfl (zQ2 BK223.out) Tryz.underlying24 rfl (by kernel_rfl)) rfl ?_
  exact ⟨zE, zB⟩

mutual
def chunk_Right.j0 : Nat → Bool → Int → Int → ByteArray → Int → Option (Bool)
 | 0, _, _, _, _, _ => none
 | k + 1, x3, x236000, x236001, x236002, x236003 => if x236000 < 0 then (chunk_Right.j1 k x3 (decide (x236000 < 0)) x236000 x236001 x236002 x236003) else (if x236000 > 4 then (chunk_Right.j1 k x3 (decide (x236000 > 4)) x236000 x236001 x236002 x236003) else (if x236001 < 0 then (chunk_Right.j1 k x3 (decide (x236001 < 0)) x236000 x236001 x236002 x236003) else (if x236001 > 4000 then (chunk_Right.j1 k x3 (decide (x236001 > 4000)) x236000 x236001 x236002 x236003) else (if x236003 < 0 then (chunk_Right.j1 k x3 (decide (x236003 < 0)) x236000 x236001 x236002 x236003) else (if x236003 > 4000 then (chunk_Right.j1 k x3 (decide (x236003 > 4000)) x236000 x236001 x236002 x236003) else (chunk_Right.j1 k x3 (decide ((x236002.size : Int) > 200)) x236000 x236001 x236002 x236003))))))
def chunk_Right.j1 : Nat → Bool → Bool → Int → Int → ByteArray → Int → Option (Bool)
 | 0, _, _, _, _, _, _ => none
 | k + 1, x3, x12, x236000, x236001, x236002, x236003 => if x12 = true then (some false) else (if ((x236000 == 1) == (decide (x236001 > 0))) = true then (if x3 = true then (some true) else (some (x236002.toList == ([] : List UInt8)))) else (some false))
end
def chunk_Right.f (k : Nat) (a0_0 : Int) (a0_1 : Int) (a0_2 : ByteArray) (a0_3 : Int) : Option (Bool) := if a0_0 = 1 then (chunk_Right.j0 k false a0_0 a0_1 a0_2 a0_3) else (chunk_Right.j0 k (a0_0 != 4) a0_0 a0_1 a0_2 a0_3)
theorem chunk_Right.mono_l : ∀ k, (∀ y0 y1 y2 y3 y4, LeO (chunk_Right.j0 k y0 y1 y2 y3 y4) (chunk_Right.j0 (k + 1) y0 y1 y2 y3 y4)) ∧ (∀ y0 y1 y2 y3 y4 y5, LeO (chunk_Right.j1 k y0 y1 y2 y3 y4 y5) (chunk_Right.j1 (k + 1) y0 y1 y2 y3 y4 y5))
 | 0 => ⟨fun _ _ _ _ _ r h => by simp [chunk_Right.j0] at h, fun _ _ _ _ _ _ r h => by simp [chunk_Right.j1] at h⟩
 | k + 1 => by
  obtain ⟨ih0, ih1⟩ := chunk_Right.mono_l k
  refine ⟨?_, ?_⟩
  ·intro y0 y1 y2 y3 y4
   unfold chunk_Right.j0; exact zM
  ·intro y0 y1 y2 y3 y4 y5
   unfold chunk_Right.j1; exact zM
theorem chunk_Right.mono : ∀ a0 a1 a2 a3 k, LeO (chunk_Right.f k a0 a1 a2 a3) (chunk_Right.f (k + 1) a0 a1 a2 a3) := by
 intro a0 a1 a2 a3 k
 obtain ⟨ih0, ih1⟩ := chunk_Right.mono_l k
 unfold chunk_Right.f; exact zM
set_option maxHeartbeats 8000000 in
set_option maxRecDepth 100000 in
theorem chunk_Right.calls (k : Nat) (a0_0 : Int) (a0_1 : Int) (a0_2 : ByteArray) (a0_3 : Int) (r : Bool) (w : World) (h : chunk_Right.f k a0_0 a0_1 a0_2 a0_3 = some r) :
  Calls Tryz.prog 44 #[.agg #[.int .i64 a0_0, .int .i64 a0_1, .string a0_2, .int .i64 a0_3]] w fun e w' => e = .returned (.bool r) ∧ Below w.heap.size w w' := by
 have hu26 := Tryz.underlying26; have HB := aM (Below.refl w.heap.size w); have H : (if a0_0 = 1 then (chunk_Right.j0 k false a0_0 a0_1 a0_2 a0_3) else (chunk_Right.j0 k (a0_0 != 4) a0_0 a0_1 a0_2 a0_3)) = some r := h; clear h; have HC2 := aM H; clear H
 go_enter Tryz.func44, Tryz.ntmps44
 go_upto_region 1 with (first | ((with_reducible refine gate_dst (N := 1) rfl ?_); refine box_event ?hg (N := 1) ?hd (cs := #[.int .i64 a0_0, .int .i64 a0_1, .string a0_2, .int .i64 a0_3]) (t := 26) ?hr ?_; (case hd => rfl); (case hg => rfl); (case hr => exact zG); intro gb235 hg w3 hbox hb; have BK235 := aM hbox; have GW235 := aM (by rw [hg]; exact (below_size zB) : w.heap.size ≤ gb235); replace HB := aM (below_step zB hb); have GE235 := GW235; clear hb hbox hg))
 (try simp only [Act.put, List.setIfInBounds_toArray, List.set_cons_zero, List.set_cons_succ])
 go_cut [3] (fun v3 wc => ∃ (kq : Nat) (x3_1 : Bool), v3 = .bool x3_1 ∧ Aside0 (chunk_Right.j0 kq x3_1 a0_0 a0_1 a0_2 a0_3 = some r) ∧ Aside0 (kq ≤ k) ∧ Aside0 (wc.heap[gb235]? = some (.cells #[.int .i64 a0_0, .int .i64 a0_1, .string a0_2, .int .i64 a0_3] 26 (0, 0))) ∧ Aside0 (Below w.heap.size w wc))
 case first =>
  have H := HC2.out; clear HC2; by_cases c4 : a0_0 = 1
  ·rw [if_pos c4] at H; obtain ⟨c4b0, c4b1⟩ := zd c4; clear c4
   (first | rw [c4b0] | (simp only [i64_w, i32_w]; rw [c4b0]) | skip)
   have H' := aM H; clear H; obtain ⟨_, _, _, _, _, _, _, _⟩ := cz4 BK235.out
   go_wp2
   go_meet
   case rel => exact ⟨_, (false), zR, H', ⟨by first | omega | exact Nat.le_refl _⟩, ⟨zK BK235.out⟩, ⟨zB⟩⟩
  ·rw [if_neg c4] at H; obtain ⟨c4b0, c4b1⟩ := ze c4
   (first | rw [c4b0] | (simp only [i64_w, i32_w]; rw [c4b0]) | skip)
   have H' := aM H; clear H; obtain ⟨_, _, _, _, _, _, _, _⟩ := cz4 BK235.out
   go_wp2
   go_meet
   case rel => exact ⟨_, ((a0_0 != 4)), zR, H', ⟨by first | omega | exact Nat.le_refl _⟩, ⟨zK BK235.out⟩, ⟨zB⟩⟩
 case rest =>
  clear HC2; (try clear p2); (try clear c4); (try clear c4b0); (try clear c4b1); obtain ⟨kq, x3_1, rfl, HA, HJ1, BK235, HB⟩ := hcut; cases kq with
  | zero => exact absurd HA.out (by simp [chunk_Right.j0])
  | succ kj1 =>
   have H := HA.out; clear HA; simp only [chunk_Right.j0] at H; have HC7 := aM H; clear H; obtain ⟨_, _, _, _, _, _, _, _⟩ := cz4 BK235.out
   go_upto_if 12 with (fail)
   go_cut [12] (fun v12 wc => ∃ (kq : Nat) (x12_6 : Bool), v12 = .bool x12_6 ∧ Aside0 (chunk_Right.j1 kq x3_1 x12_6 a0_0 a0_1 a0_2 a0_3 = some r) ∧ Aside0 (kq ≤ kj1) ∧ Aside0 (wc.heap[gb235]? = some (.cells #[.int .i64 a0_0, .int .i64 a0_1, .string a0_2, .int .i64 a0_3] 26 (0, 0))) ∧ Aside0 (Below w.heap.size w wc))
   case first =>
    have H := HC7.out; clear HC7; by_cases c9 : a0_0 < 0
    ·rw [if_pos c9] at H; have c9b0 := decide_eq_true c9; clear c9
     (first | rw [c9b0] | (simp only [i64_w, i32_w]; rw [c9b0]) | skip)
     have H' := aM H; clear H
     go_wp2
     go_meet
     case rel => exact ⟨_, (decide (a0_0 < 0)), zR, H', ⟨by have := HJ1.out; first | omega | exact Nat.le_refl _⟩, ⟨zK BK235.out⟩, ⟨zB⟩⟩
    ·rw [if_neg c9] at H; have c9b0 := decide_eq_false c9; clear c9
     (first | rw [c9b0] | (simp only [i64_w, i32_w]; rw [c9b0]) | skip)
     by_cases c10 : a0_0 > 4
     ·rw [if_pos c10] at H; have c10b0 := decide_eq_true c10; clear c10; have H' := aM H; clear H; obtain ⟨_, _, _, _, _, _, _, _⟩ := cz4 BK235.out
      go_wp2
      go_meet
      case rel => exact ⟨_, (decide (a0_0 > 4)), zR, H', ⟨by have := HJ1.out; first | omega | exact Nat.le_refl _⟩, ⟨zK BK235.out⟩, ⟨zB⟩⟩
     ·rw [if_neg c10] at H; have c10b0 := decide_eq_false c10; clear c10; by_cases c12 : a0_1 < 0
      ·rw [if_pos c12] at H; have c12b0 := decide_eq_true c12; clear c12; have H' := aM H; clear H; obtain ⟨_, _, _, _, _, _, _, _⟩ := cz4 BK235.out
       go_wp2
       go_meet
       case rel => exact ⟨_, (decide (a0_1 < 0)), zR, H', ⟨by have := HJ1.out; first | omega | exact Nat.le_refl _⟩, ⟨zK BK235.out⟩, ⟨zB⟩⟩
      ·rw [if_neg c12] at H; have c12b0 := decide_eq_false c12; clear c12; by_cases c14 : a0_1 > 4000
       ·rw [if_pos c14] at H; have c14b0 := decide_eq_true c14; clear c14; have H' := aM H; clear H; obtain ⟨_, _, _, _, _, _, _, _⟩ := cz4 BK235.out
        go_wp2
        go_meet
        case rel => exact ⟨_, (decide (a0_1 > 4000)), zR, H', ⟨by have := HJ1.out; first | omega | exact Nat.le_refl _⟩, ⟨zK BK235.out⟩, ⟨zB⟩⟩
       ·rw [if_neg c14] at H; have c14b0 := decide_eq_false c14; clear c14; by_cases c16 : a0_3 < 0
        ·rw [if_pos c16] at H; have c16b0 := decide_eq_true c16; clear c16; have H' := aM H; clear H; obtain ⟨_, _, _, _, _, _, _, _⟩ := cz4 BK235.out
         go_wp2
         go_meet
         case rel => exact ⟨_, (decide (a0_3 < 0)), zR, H', ⟨by have := HJ1.out; first | omega | exact Nat.le_refl _⟩, ⟨zK BK235.out⟩, ⟨zB⟩⟩
        ·rw [if_neg c16] at H; have c16b0 := decide_eq_false c16; clear c16; by_cases c18 : a0_3 > 4000
         ·rw [if_pos c18] at H; have c18b0 := decide_eq_true c18; clear c18; have H' := aM H; clear H; obtain ⟨_, _, _, _, _, _, _, _⟩ := cz4 BK235.out
          go_wp2
          go_meet
          case rel => exact ⟨_, (decide (a0_3 > 4000)), zR, H', ⟨by have := HJ1.out; first | omega | exact Nat.le_refl _⟩, ⟨zK BK235.out⟩, ⟨zB⟩⟩
         ·rw [if_neg c18] at H; have c18b0 := decide_eq_false c18; clear c18; have H' := aM H; clear H; obtain ⟨_, _, _, _, _, _, _, _⟩ := cz4 BK235.out
          go_wp2
          go_meet
          case rel => exact ⟨_, (decide ((a0_2.size : Int) > 200)), zR, H', ⟨by have := HJ1.out; first | omega | exact Nat.le_refl _⟩, ⟨zK BK235.out⟩, ⟨zB⟩⟩
   case rest =>
    clear HC7; (try clear c1); (try clear p2); (try clear c4); (try clear c4b0); (try clear c4b1); (try clear c9); (try clear c9b0); (try clear c10); (try clear c10b0); (try clear c12); (try clear c12b0); (try clear c14); (try clear c14b0); (try clear c16); (try clear c16b0); (try clear c18); (try clear c18b0); (try clear p2); obtain ⟨kq, x12_6, rfl, HA, HJ6, BK235, HB⟩ := hcut; cases kq with
    | zero => exact absurd HA.out (by simp [chunk_Right.j1])
    | succ kj6 =>
     have H := HA.out; clear HA; simp only [chunk_Right.j1] at H; by_cases c21 : x12_6 = true
     ·subst c21; rw [if_pos rfl] at H; obtain rfl := Option.some.inj H
      go_wp2
      go_ret
      exact ⟨zE, zB⟩
     ·replace c21 := Bool.eq_false_iff.mpr c21; subst c21; rw [if_neg (show ¬ (false = true) by decide)] at H; by_cases c22 : ((a0_0 == 1) == (decide (a0_1 > 0))) = true
      ·rw [if_pos c22] at H; have c22b0 : ((a0_0 == 1) == (decide (a0_1 > 0))) = true := c22
       (try (have c22b1 : decide ((a0_0 == 1) = (decide (a0_1 > 0))) = true := by simpa using c22))
       (try (have c22b2 : ((a0_0 == 1) == (decide (a0_1 > 0))) = true := by simpa using c22))
       clear c22; by_cases c23 : x3_1 = true
       ·subst c23; rw [if_pos rfl] at H; obtain rfl := Option.some.inj H; obtain ⟨_, _, _, _, _, _, _, _⟩ := cz4 BK235.out
        go_wp2
        go_ret
        exact ⟨zE, zB⟩
       ·replace c23 := Bool.eq_false_iff.mpr c23; subst c23; rw [if_neg (show ¬ (false = true) by decide)] at H; obtain rfl := Option.some.inj H; obtain ⟨_, _, _, _, _, _, _, _⟩ := cz4 BK235.out
        go_wp2
        go_ret
        exact ⟨zE, zB⟩
      ·rw [if_neg c22] at H; (have c22b0 : ((a0_0 == 1) == (decide (a0_1 > 0))) = false := by simpa using c22)
       (try (have c22b1 : decide ((a0_0 == 1) = (decide (a0_1 > 0))) = false := by simpa using c22))
       (try (have c22b2 : ((a0_0 == 1) == (decide (a0_1 > 0))) = false := by simpa using c22))
       (try (have c22b3 : ¬ ((a0_0 == 1) = (decide (a0_1 > 0))) := by simpa using c22))
       clear c22; obtain rfl := Option.some.inj H; obtain ⟨_, _, _, _, _, _, _, _⟩ := cz4 BK235.out
       go_wp2
       go_ret
       exact ⟨zE, zB⟩

end Go.Proofs.YtapeodbgobkjeaaGreatDoor.P
