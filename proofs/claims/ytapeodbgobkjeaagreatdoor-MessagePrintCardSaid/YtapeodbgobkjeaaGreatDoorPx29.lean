/- Printed by a program of the session out of the translation: plain Lean functions, each with the contract that the Go function computes it. -/
import Derived.Test.YtapeodbgobkjeaaGreatDoorHZM
import Derived.Test.YtapeodbgobkjeaaGreatDoorPx0
import Derived.Test.YtapeodbgobkjeaaGreatDoorPxA
import Derived.Test.YtapeodbgobkjeaaGreatDoorPx10
import Derived.Test.YtapeodbgobkjeaaGreatDoorPx43
import Derived.Test.YtapeodbgobkjeaaGreatDoorHZC
namespace Go.Proofs.YtapeodbgobkjeaaGreatDoor.P
open Go.RowKit Go.Proofs.YtapeodbgobkjeaaGreatDoorW.PrintWords Go.Proofs.YtapeodbgobkjeaaGreatDoorW.PrintLast Go.Proofs.YtapeodbgobkjeaaGreatDoorW.PrintMore
attribute [local go_sem] max2_int min2_int max_two min_two max_three min_three max_four min_four   -- for this text's walks alone
set_option linter.unusedVariables false
set_option linter.unusedSimpArgs false

attribute [local go_sem high] eqA24 eqA26
def message_Right.j0 : Nat → Bool → Bool → Bool → ByteArray → ByteArray → Int → Int → ByteArray → Int → Int → ByteArray → Int → ByteArray → ByteArray → Int → ByteArray → Int → List (S40) → Int → Option (Bool)
 | 0, _, _, _, _, _, _, _, _, _, _, _, _, _, _, _, _, _, _, _ => none
 | k + 1, x3, x66, x694000, x694001, x694002, x694003, x694004, x694005, x694006, x694007, x694008, x694009, x694010, x694011, x694012, x694013, x694014, x694015, x694016 => if x66 = true then (some false) else (if x694003 = 2 then (if x3 = true then (if x694004 > (x694005.size : Int) then (some (decide (x694004 ≤ 4000))) else (some false)) else (some false)) else (if x694003 = 3 then (if x694004 = 0 then ((chunk_Right.f k x694006 x694007 x694008 x694009).bind fun t698 => (if t698 = true then (if x694006 = 4 then (some false) else (some (x694009 == (x694005.size : Int)))) else (some false))) else (some false)) else (if x694003 = 4 then (if x3 = true then (if x694000 = true then (some (x694004 == 0)) else (some false)) else (some false)) else (some false))))
def message_Right.f (k : Nat) (a0_0 : Bool) (a0_1 : ByteArray) (a0_2 : ByteArray) (a0_3 : Int) (a0_4 : Int) (a0_5 : ByteArray) (a0_6 : Int) (a0_7 : Int) (a0_8 : ByteArray) (a0_9 : Int) (a0_10 : ByteArray) (a0_11 : ByteArray) (a0_12 : Int) (a0_13 : ByteArray) (a0_14 : Int) (l0_15 : List (S40)) (a0_16 : Int) : Option (Bool) := if a0_16 = 0 then (if a0_3 = 0 then (if a0_4 = 0 then (if a0_5.toList = ([] : List UInt8) then (if (a0_6 == 0 && (a0_7 == 0 && (a0_8.toList == ([] : List UInt8) && (a0_9 == 0)))) = true then ((message_none.f a0_10 a0_11 a0_12 a0_13 a0_14 l0_15).bind fun t694 => (if t694 = true then (if (a0_2.size : Int) < 2004 then ((strings_HasSuffix.f a0_2 (⟨#[13, 10, 13, 10]⟩ : ByteArray)).bind fun t695 => (some (!t695))) else (some false)) else (some false))) else (some false)) else (some false)) else (some false)) else (if a0_2.toList = ([] : List UInt8) then (if (a0_5.size : Int) > 4000 then (message_Right.j0 k (a0_6 == 0 && (a0_7 == 0 && (a0_8.toList == ([] : List UInt8) && (a0_9 == 0)))) (decide ((a0_5.size : Int) > 4000)) a0_0 a0_1 a0_2 a0_3 a0_4 a0_5 a0_6 a0_7 a0_8 a0_9 a0_10 a0_11 a0_12 a0_13 a0_14 l0_15 a0_16) else ((head_Right.f k a0_10 a0_11 a0_12 a0_13 a0_14 l0_15 a0_0).bind fun t696 => (message_Right.j0 k (a0_6 == 0 && (a0_7 == 0 && (a0_8.toList == ([] : List UInt8) && (a0_9 == 0)))) (!t696) a0_0 a0_1 a0_2 a0_3 a0_4 a0_5 a0_6 a0_7 a0_8 a0_9 a0_10 a0_11 a0_12 a0_13 a0_14 l0_15 a0_16))) else (message_Right.j0 k (a0_6 == 0 && (a0_7 == 0 && (a0_8.toList == ([] : List UInt8) && (a0_9 == 0)))) (a0_2.toList != ([] : List UInt8)) a0_0 a0_1 a0_2 a0_3 a0_4 a0_5 a0_6 a0_7 a0_8 a0_9 a0_10 a0_11 a0_12 a0_13 a0_14 l0_15 a0_16))) else (if a0_2.size + a0_5.size ≤ 9223372036854775807 then (if (a0_2 ++ a0_5).toList = ([] : List UInt8) then (if (a0_3 == 0 && (a0_4 == 0)) = true then (if (a0_6 == 0 && (a0_7 == 0 && (a0_8.toList == ([] : List UInt8) && (a0_9 == 0)))) = true then ((message_none.f a0_10 a0_11 a0_12 a0_13 a0_14 l0_15).bind fun t697 => (some t697)) else (some false)) else (some false)) else (some false)) else (none))
theorem message_Right.mono_l : ∀ k, (∀ y0 y1 y2 y3 y4 y5 y6 y7 y8 y9 y10 y11 y12 y13 y14 y15 y16 y17 y18, LeO (message_Right.j0 k y0 y1 y2 y3 y4 y5 y6 y7 y8 y9 y10 y11 y12 y13 y14 y15 y16 y17 y18) (message_Right.j0 (k + 1) y0 y1 y2 y3 y4 y5 y6 y7 y8 y9 y10 y11 y12 y13 y14 y15 y16 y17 y18))
 | 0 => fun _ _ _ _ _ _ _ _ _ _ _ _ _ _ _ _ _ _ _ r h => by simp [message_Right.j0] at h
 | k + 1 => by
  have ih0 := message_Right.mono_l k
  ·intro y0 y1 y2 y3 y4 y5 y6 y7 y8 y9 y10 y11 y12 y13 y14 y15 y16 y17 y18
   unfold message_Right.j0; have m0 := @chunk_Right.mono; have m1 := @head_Right.mono; exact zM
theorem message_Right.mono : ∀ a0 a1 a2 a3 a4 a5 a6 a7 a8 a9 a10 a11 a12 a13 a14 a15 a16 k, LeO (message_Right.f k a0 a1 a2 a3 a4 a5 a6 a7 a8 a9 a10 a11 a12 a13 a14 a15 a16) (message_Right.f (k + 1) a0 a1 a2 a3 a4 a5 a6 a7 a8 a9 a10 a11 a12 a13 a14 a15 a16) := by
 intro a0 a1 a2 a3 a4 a5 a6 a7 a8 a9 a10 a11 a12 a13 a14 a15 a16 k
 have ih0 := message_Right.mono_l k
 unfold message_Right.f; have m0 := @chunk_Right.mono; have m1 := @head_Right.mono; exact zM
set_option maxHeartbeats 8000000 in
set_option maxRecDepth 100000 in
theorem message_Right.calls (k : Nat) (a0_0 : Bool) (a0_1 : ByteArray) (a0_2 : ByteArray) (a0_3 : Int) (a0_4 : Int) (a0_5 : ByteArray) (a0_6 : Int) (a0_7 : Int) (a0_8 : ByteArray) (a0_9 : Int) (a0_10 : ByteArray) (a0_11 : ByteArray) (a0_12 : Int) (a0_13 : ByteArray) (a0_14 : Int) (A0_15 : Option Addr) (c0_15 : Nat) (l0_15 : List (S40)) (a0_16 : Int) (r : Bool) (w : World) (hr0_15 : Kd.C k40 w A0_15 l0_15.length l0_15) (hc0_15 : l0_15.length ≤ c0_15) (h : message_Right.f k a0_0 a0_1 a0_2 a0_3 a0_4 a0_5 a0_6 a0_7 a0_8 a0_9 a0_10 a0_11 a0_12 a0_13 a0_14 l0_15 a0_16 = some r) :
  Calls Tryz.prog 27 #[.agg #[.bool a0_0, .string a0_1, .string a0_2, .int .i64 a0_3, .int .i64 a0_4, .string a0_5, .int .i64 a0_6, .int .i64 a0_7, .string a0_8, .int .i64 a0_9, .string a0_10, .string a0_11, .int .i64 a0_12, .string a0_13, .int .i64 a0_14, .slice A0_15 l0_15.length c0_15, .int .i64 a0_16]] w fun e w' => e = .returned (.bool r) ∧ Below w.heap.size w w' := by
 have hu32 := Tryz.underlying32; have hu26 := Tryz.underlying26; have hu24 := Tryz.underlying24; have hu29 := Tryz.underlying29; have HR0_15 := aM hr0_15; have HC0_15 := aM hc0_15; clear hr0_15 hc0_15; have HB := aM (Below.refl w.heap.size w); have H := h; unfold message_Right.f at H; clear h; by_cases c2 : a0_16 = 0
 ·rw [if_pos c2] at H; obtain ⟨c2b0, c2b1⟩ := zd c2; clear c2; by_cases c3 : a0_3 = 0
  ·rw [if_pos c3] at H; obtain ⟨c3b0, c3b1⟩ := zd c3; clear c3; by_cases c4 : a0_4 = 0
   ·rw [if_pos c4] at H; obtain ⟨c4b0, c4b1⟩ := zd c4; clear c4; by_cases c5 : a0_5.toList = ([] : List UInt8)
    ·rw [if_pos c5] at H; obtain ⟨c5b0, c5b1⟩ := zd c5; have c5e : (!a0_5.toList.isEmpty) = false := congrArg not (List.isEmpty_iff.mpr c5); clear c5; by_cases c6 : (a0_6 == 0 && (a0_7 == 0 && (a0_8.toList == ([] : List UInt8) && (a0_9 == 0)))) = true
     ·rw [if_pos c6] at H; have c6b0 : (a0_6 == 0 && (a0_7 == 0 && (a0_8.toList == ([] : List UInt8) && (a0_9 == 0)))) = true := c6; (have c6b9 : (a0_6 == 0 && (a0_7 == 0 && (a0_8.toList.isEmpty && (a0_9 == 0)))) = true := by rw [show a0_8.toList.isEmpty = (a0_8.toList == ([] : List UInt8)) from by cases a0_8.toList <;> rfl]; exact c6b0)
      (try (have c6b1 : decide (a0_6 = 0 && (a0_7 == 0 && (a0_8.toList == ([] : List UInt8) && (a0_9 == 0)))) = true := by simpa using c6))
      (try (have c6b2 : (a0_6 == 0 && (a0_7 == 0 && (a0_8.toList == ([] : List UInt8) && (a0_9 == 0)))) = true := by simpa using c6))
      clear c6; replace H := Option.bind_eq_some_iff.mp H; obtain ⟨t694, A70, H⟩ := H; replace H : (if t694 = true then (if (a0_2.size : Int) < 2004 then ((strings_HasSuffix.f a0_2 (⟨#[13, 10, 13, 10]⟩ : ByteArray)).bind fun t695 => (some (!t695))) else (some false)) else (some false)) = some r := H; have A7 := aM A70; clear A70; by_cases c8 : t694 = true
      ·subst c8; rw [if_pos rfl] at H; by_cases c9 : (a0_2.size : Int) < 2004
       ·rw [if_pos c9] at H; have c9b0 := decide_eq_true c9; have c9b1 : decide (a0_2.size < 2004) = true := decide_eq_true (by omega); clear c9; replace H := Option.bind_eq_some_iff.mp H; obtain ⟨t695, A100, H⟩ := H; replace H : (some (!t695)) = some r := H; have A10 := aM A100; clear A100; obtain rfl := Option.some.inj H
        go_enter Tryz.func27, Tryz.ntmps27
        go_wp2_with (first | ((with_reducible refine gate_dst (N := 1) rfl ?_); (try (refine gate_guard (by rfl) ?_; dsimp only)); refine box_event ?hg (N := 1) ?hd (cs := #[.bool a0_0, .string a0_1, .string a0_2, .int .i64 a0_3, .int .i64 a0_4, .string a0_5, .int .i64 a0_6, .int .i64 a0_7, .string a0_8, .int .i64 a0_9, .string a0_10, .string a0_11, .int .i64 a0_12, .string a0_13, .int .i64 a0_14, .slice A0_15 l0_15.length c0_15, .int .i64 a0_16]) (t := 32) ?hr ?_; (case hd => rfl); (case hg => rfl); (case hr => exact zG); intro gb693 hg w11 hbox hb; have BK693 := aM hbox; have GW693 := aM (by rw [hg]; exact (below_size zB) : w.heap.size ≤ gb693); replace HB := aM (below_step zB hb); have GE693 := GW693; clear hb hbox hg; obtain ⟨_, _, _, _, _, _, _, _, _, _, _, _, _, _, _, _, _, _, _, _, _, _, _, _, _, _, _, _, _, _, _, _, _, _⟩ := cz17 BK693.out) | (go_at_call 41; (with_reducible refine (message_none.calls a0_10 a0_11 a0_12 a0_13 a0_14 _ _ l0_15 true _ ?side1 ?side2 A7.out).mono ?_); (case side1 => exact zC (Kd.C_below HR0_15.out HB.out)); (case side2 => exact HC0_15.out); rintro e w13 ⟨rfl, hb⟩; replace BK693 := aM (zX BK693.out hb); replace HB := aM (below_step zB hb); clear hb; obtain ⟨_, _, _, _, _, _, _, _, _, _, _, _, _, _, _, _, _, _, _, _, _, _, _, _, _, _, _, _, _, _, _, _, _, _⟩ := cz17 BK693.out) | (go_at_call 42; (with_reducible refine (strings_HasSuffix.calls a0_2 (⟨#[13, 10, 13, 10]⟩ : ByteArray) t695 _ A10.out).mono ?_); rintro e w' ⟨rfl, ⟨nd, rfl⟩⟩))
        go_ret
        exact ⟨zE, zB⟩
       ·rw [if_neg c9] at H; have c9b0 := decide_eq_false c9; have c9b1 : decide (a0_2.size < 2004) = false := decide_eq_false (by omega); clear c9; obtain rfl := Option.some.inj H
        go_enter Tryz.func27, Tryz.ntmps27
        go_wp2_with (first | ((with_reducible refine gate_dst (N := 1) rfl ?_); (try (refine gate_guard (by rfl) ?_; dsimp only)); refine box_event ?hg (N := 1) ?hd (cs := #[.bool a0_0, .string a0_1, .string a0_2, .int .i64 a0_3, .int .i64 a0_4, .string a0_5, .int .i64 a0_6, .int .i64 a0_7, .string a0_8, .int .i64 a0_9, .string a0_10, .string a0_11, .int .i64 a0_12, .string a0_13, .int .i64 a0_14, .slice A0_15 l0_15.length c0_15, .int .i64 a0_16]) (t := 32) ?hr ?_; (case hd => rfl); (case hg => rfl); (case hr => exact zG); intro gb693 hg w15 hbox hb; have BK693 := aM hbox; have GW693 := aM (by rw [hg]; exact (below_size zB) : w.heap.size ≤ gb693); replace HB := aM (below_step zB hb); have GE693 := GW693; clear hb hbox hg; obtain ⟨_, _, _, _, _, _, _, _, _, _, _, _, _, _, _, _, _, _, _, _, _, _, _, _, _, _, _, _, _, _, _, _, _, _⟩ := cz17 BK693.out) | (go_at_call 41; (with_reducible refine (message_none.calls a0_10 a0_11 a0_12 a0_13 a0_14 _ _ l0_15 true _ ?side1 ?side2 A7.out).mono ?_); (case side1 => exact zC (Kd.C_below HR0_15.out HB.out)); (case side2 => exact HC0_15.out); rintro e w17 ⟨rfl, hb⟩; replace BK693 := aM (zX BK693.out hb); replace HB := aM (below_step zB hb); clear hb; obtain ⟨_, _, _, _, _, _, _, _, _, _, _, _, _, _, _, _, _, _, _, _, _, _, _, _, _, _, _, _, _, _, _, _, _, _⟩ := cz17 BK693.out))
        go_ret
        exact ⟨zE, zB⟩
      ·replace c8 := Bool.eq_false_iff.mpr c8; subst c8; rw [if_neg (show ¬ (false = true) by decide)] at H; obtain rfl := Option.some.inj H
       go_enter Tryz.func27, Tryz.ntmps27
       go_wp2_with (first | ((with_reducible refine gate_dst (N := 1) rfl ?_); (try (refine gate_guard (by rfl) ?_; dsimp only)); refine box_event ?hg (N := 1) ?hd (cs := #[.bool a0_0, .string a0_1, .string a0_2, .int .i64 a0_3, .int .i64 a0_4, .string a0_5, .int .i64 a0_6, .int .i64 a0_7, .string a0_8, .int .i64 a0_9, .string a0_10, .string a0_11, .int .i64 a0_12, .string a0_13, .int .i64 a0_14, .slice A0_15 l0_15.length c0_15, .int .i64 a0_16]) (t := 32) ?hr ?_; (case hd => rfl); (case hg => rfl); (case hr => exact zG); intro gb693 hg w19 hbox hb; have BK693 := aM hbox; have GW693 := aM (by rw [hg]; exact (below_size zB) : w.heap.size ≤ gb693); replace HB := aM (below_step zB hb); have GE693 := GW693; clear hb hbox hg; obtain ⟨_, _, _, _, _, _, _, _, _, _, _, _, _, _, _, _, _, _, _, _, _, _, _, _, _, _, _, _, _, _, _, _, _, _⟩ := cz17 BK693.out) | (go_at_call 41; (with_reducible refine (message_none.calls a0_10 a0_11 a0_12 a0_13 a0_14 _ _ l0_15 false _ ?side1 ?side2 A7.out).mono ?_); (case side1 => exact zC (Kd.C_below HR0_15.out HB.out)); (case side2 => exact HC0_15.out); rintro e w21 ⟨rfl, hb⟩; replace BK693 := aM (zX BK693.out hb); replace HB := aM (below_step zB hb); clear hb))
       go_ret
       exact ⟨zE, zB⟩
     ·rw [if_neg c6] at H; (have c6b0 : (a0_6 == 0 && (a0_7 == 0 && (a0_8.toList == ([] : List UInt8) && (a0_9 == 0)))) = false := by simpa using c6); (have c6b9 : (a0_6 == 0 && (a0_7 == 0 && (a0_8.toList.isEmpty && (a0_9 == 0)))) = false := by rw [show a0_8.toList.isEmpty = (a0_8.toList == ([] : List UInt8)) from by cases a0_8.toList <;> rfl]; exact c6b0)
      (try (have c6b1 : decide (a0_6 = 0 && (a0_7 == 0 && (a0_8.toList == ([] : List UInt8) && (a0_9 == 0)))) = false := by simpa using c6))
      (try (have c6b2 : (a0_6 == 0 && (a0_7 == 0 && (a0_8.toList == ([] : List UInt8) && (a0_9 == 0)))) = false := by simpa using c6))
      (try (have c6b3 : ¬ (a0_6 = 0 && (a0_7 == 0 && (a0_8.toList == ([] : List UInt8) && (a0_9 == 0)))) := by simpa using c6))
      clear c6; obtain rfl := Option.some.inj H
      go_enter Tryz.func27, Tryz.ntmps27
      go_wp2_with (first | ((with_reducible refine gate_dst (N := 1) rfl ?_); (try (refine gate_guard (by rfl) ?_; dsimp only)); refine box_event ?hg (N := 1) ?hd (cs := #[.bool a0_0, .string a0_1, .string a0_2, .int .i64 a0_3, .int .i64 a0_4, .string a0_5, .int .i64 a0_6, .int .i64 a0_7, .string a0_8, .int .i64 a0_9, .string a0_10, .string a0_11, .int .i64 a0_12, .string a0_13, .int .i64 a0_14, .slice A0_15 l0_15.length c0_15, .int .i64 a0_16]) (t := 32) ?hr ?_; (case hd => rfl); (case hg => rfl); (case hr => exact zG); intro gb693 hg w22 hbox hb; have BK693 := aM hbox; have GW693 := aM (by rw [hg]; exact (below_size zB) : w.heap.size ≤ gb693); replace HB := aM (below_step zB hb); have GE693 := GW693; clear hb hbox hg; obtain ⟨_, _, _, _, _, _, _, _, _, _, _, _, _, _, _, _, _, _, _, _, _, _, _, _, _, _, _, _, _, _, _, _, _, _⟩ := cz17 BK693.out))
      go_ret
      exact ⟨zE, zB⟩
    ·rw [if_neg c5] at H; obtain ⟨c5b0, c5b1⟩ := ze c5; obtain rfl := Option.some.inj H; have c5e : (!a0_5.toList.isEmpty) = true := congrArg not (Bool.eq_false_iff.mpr (fun h => c5 (List.isEmpty_iff.mp h)))
     go_enter Tryz.func27, Tryz.ntmps27
     go_wp2_with (first | ((with_reducible refine gate_dst (N := 1) rfl ?_); (try (refine gate_guard (by rfl) ?_; dsimp only)); refine box_event ?hg (N := 1) ?hd (cs := #[.bool a0_0, .string a0_1, .string a0_2, .int .i64 a0_3, .int .i64 a0_4, .string a0_5, .int .i64 a0_6, .int .i64 a0_7, .string a0_8, .int .i64 a0_9, .string a0_10, .string a0_11, .int .i64 a0_12, .string a0_13, .int .i64 a0_14, .slice A0_15 l0_15.length c0_15, .int .i64 a0_16]) (t := 32) ?hr ?_; (case hd => rfl); (case hg => rfl); (case hr => exact zG); intro gb693 hg w24 hbox hb; have BK693 := aM hbox; have GW693 := aM (by rw [hg]; exact (below_size zB) : w.heap.size ≤ gb693); replace HB := aM (below_step zB hb); have GE693 := GW693; clear hb hbox hg; obtain ⟨_, _, _, _, _, _, _, _, _, _, _, _, _, _, _, _, _, _, _, _, _, _, _, _, _, _, _, _, _, _, _, _, _, _⟩ := cz17 BK693.out))
     go_ret
     exact ⟨zE, zB⟩
   ·rw [if_neg c4] at H; obtain ⟨c4b0, c4b1⟩ := ze c4; obtain rfl := Option.some.inj H
    go_enter Tryz.func27, Tryz.ntmps27
    go_wp2_with (first | ((with_reducible refine gate_dst (N := 1) rfl ?_); (try (refine gate_guard (by rfl) ?_; dsimp only)); refine box_event ?hg (N := 1) ?hd (cs := #[.bool a0_0, .string a0_1, .string a0_2, .int .i64 a0_3, .int .i64 a0_4, .string a0_5, .int .i64 a0_6, .int .i64 a0_7, .string a0_8, .int .i64 a0_9, .string a0_10, .string a0_11, .int .i64 a0_12, .string a0_13, .int .i64 a0_14, .slice A0_15 l0_15.length c0_15, .int .i64 a0_16]) (t := 32) ?hr ?_; (case hd => rfl); (case hg => rfl); (case hr => exact zG); intro gb693 hg w26 hbox hb; have BK693 := aM hbox; have GW693 := aM (by rw [hg]; exact (below_size zB) : w.heap.size ≤ gb693); replace HB := aM (below_step zB hb); have GE693 := GW693; clear hb hbox hg; obtain ⟨_, _, _, _, _, _, _, _, _, _, _, _, _, _, _, _, _, _, _, _, _, _, _, _, _, _, _, _, _, _, _, _, _, _⟩ := cz17 BK693.out))
    go_ret
    exact ⟨zE, zB⟩
  ·rw [if_neg c3] at H; obtain ⟨c3b0, c3b1⟩ := ze c3; have HC28 := aM H; clear H
   go_enter Tryz.func27, Tryz.ntmps27
   go_upto_if 66 with (first | ((with_reducible refine gate_dst (N := 1) rfl ?_); (try (refine gate_guard (by rfl) ?_; dsimp only)); refine box_event ?hg (N := 1) ?hd (cs := #[.bool a0_0, .string a0_1, .string a0_2, .int .i64 a0_3, .int .i64 a0_4, .string a0_5, .int .i64 a0_6, .int .i64 a0_7, .string a0_8, .int .i64 a0_9, .string a0_10, .string a0_11, .int .i64 a0_12, .string a0_13, .int .i64 a0_14, .slice A0_15 l0_15.length c0_15, .int .i64 a0_16]) (t := 32) ?hr ?_; (case hd => rfl); (case hg => rfl); (case hr => exact zG); intro gb693 hg w29 hbox hb; have BK693 := aM hbox; have GW693 := aM (by rw [hg]; exact (below_size zB) : w.heap.size ≤ gb693); replace HB := aM (below_step zB hb); have GE693 := GW693; clear hb hbox hg; obtain ⟨_, _, _, _, _, _, _, _, _, _, _, _, _, _, _, _, _, _, _, _, _, _, _, _, _, _, _, _, _, _, _, _, _, _⟩ := cz17 BK693.out))
   (try simp only [Act.put, List.setIfInBounds_toArray, List.set_cons_zero, List.set_cons_succ])
   go_cut [66] (fun v66 wc => ∃ (kq : Nat) (x66_27 : Bool), v66 = .bool x66_27 ∧ Aside0 (message_Right.j0 kq (a0_6 == 0 && (a0_7 == 0 && (a0_8.toList == ([] : List UInt8) && (a0_9 == 0)))) x66_27 a0_0 a0_1 a0_2 a0_3 a0_4 a0_5 a0_6 a0_7 a0_8 a0_9 a0_10 a0_11 a0_12 a0_13 a0_14 l0_15 a0_16 = some r) ∧ Aside0 (kq ≤ k) ∧ Aside0 (wc.heap[gb693]? = some (.cells #[.bool a0_0, .string a0_1, .string a0_2, .int .i64 a0_3, .int .i64 a0_4, .string a0_5, .int .i64 a0_6, .int .i64 a0_7, .string a0_8, .int .i64 a0_9, .string a0_10, .string a0_11, .int .i64 a0_12, .string a0_13, .int .i64 a0_14, (.slice A0_15 l0_15.length c0_15), .int .i64 a0_16] 32 (0, 0))) ∧ Aside0 (Below w.heap.size w wc))
   case first =>
    have H := HC28.out; clear HC28; by_cases c31 : a0_2.toList = ([] : List UInt8)
    ·rw [if_pos c31] at H; obtain ⟨c31b0, c31b1⟩ := zd c31; have c31e : (!a0_2.toList.isEmpty) = false := congrArg not (List.isEmpty_iff.mpr c31); clear c31
     (first | rw [c31e] | rw [c31b0] | (simp only [i64_w, i32_w]; rw [c31b0]) | skip)
     by_cases c32 : (a0_5.size : Int) > 4000
     ·rw [if_pos c32] at H; have c32b0 := decide_eq_true c32; have c32b1 : decide (4000 < a0_5.size) = true := decide_eq_true (by omega); clear c32; have H' := aM H; clear H; obtain ⟨_, _, _, _, _, _, _, _, _, _, _, _, _, _, _, _, _, _, _, _, _, _, _, _, _, _, _, _, _, _, _, _, _, _⟩ := cz17 BK693.out
      go_wp2
      go_meet
      case rel => exact ⟨_, (decide ((a0_5.size : Int) > 4000)), zR, H', ⟨by first | omega | exact Nat.le_refl _⟩, ⟨zK BK693.out⟩, ⟨zB⟩⟩
     ·rw [if_neg c32] at H; have c32b0 := decide_eq_false c32; have c32b1 : decide (4000 < a0_5.size) = false := decide_eq_false (by omega); clear c32; obtain ⟨t696, A34, H⟩ := zc H; (try dsimp only at H); have H' := aM H; clear H; obtain ⟨_, _, _, _, _, _, _, _, _, _, _, _, _, _, _, _, _, _, _, _, _, _, _, _, _, _, _, _, _, _, _, _, _, _⟩ := cz17 BK693.out
      go_wp2_with (first | ((with_reducible refine gate_callee (f := 43) rfl ?_); refine goesL_ (some 78) rfl rfl Tryz.func43 (by kernel_rfl) rfl #[.agg #[.string a0_10, .string a0_11, .int .i64 a0_12, .string a0_13, .int .i64 a0_14, .slice A0_15 l0_15.length c0_15], .bool a0_0] rfl zL ?_; (with_reducible refine (head_Right.calls k a0_10 a0_11 a0_12 a0_13 a0_14 _ _ l0_15 a0_0 t696 _ ?side1 ?side2 A34.out).mono ?_); (case side1 => exact zC (Kd.C_below HR0_15.out HB.out)); (case side2 => exact HC0_15.out); rintro e w36 ⟨rfl, hb⟩; refine ⟨_, rfl, ?_⟩; replace BK693 := aM (zX BK693.out hb); replace HB := aM (below_step zB hb); clear hb))
      go_meet
      case rel => exact ⟨_, (!t696), zR, H', ⟨by first | omega | exact Nat.le_refl _⟩, ⟨zK BK693.out⟩, ⟨zB⟩⟩
    ·rw [if_neg c31] at H; obtain ⟨c31b0, c31b1⟩ := ze c31; have c31e : (!a0_2.toList.isEmpty) = true := congrArg not (Bool.eq_false_iff.mpr (fun h => c31 (List.isEmpty_iff.mp h)))
     (first | rw [c31e] | rw [c31b0] | (simp only [i64_w, i32_w]; rw [c31b0]) | skip)
     have H' := aM H; clear H
     go_wp2
     go_meet
     case rel => exact ⟨_, ((a0_2.toList != ([] : List UInt8))), zR, H', ⟨by first | omega | exact Nat.le_refl _⟩, ⟨zK BK693.out⟩, ⟨zB⟩⟩
   case rest =>
    clear HC28; (try clear c2); (try clear c2b0); (try clear c2b1); (try clear p2); (try clear c3); (try clear c3b0); (try clear c3b1); (try clear c4); (try clear c4b0); (try clear c4b1); (try clear c5); (try clear c5b0); (try clear c5b1); (try clear c6); (try clear c6b0); (try clear c6b1); (try clear c6b2); (try clear c8); (try clear c9); (try clear c9b0); (try clear c9b1); (try clear c27); (try clear c31); (try clear c31b0); (try clear c31b1); (try clear c32); (try clear c32b0); (try clear c32b1)
    obtain ⟨kq, x66_27, rfl, HA, HJ27, BK693, HB⟩ := hcut; cases kq with
    | zero => exact absurd HA.out (by simp [message_Right.j0])
    | succ kj27 =>
     have H := HA.out; clear HA; simp only [message_Right.j0] at H; by_cases c37 : x66_27 = true
     ·subst c37; rw [if_pos rfl] at H; obtain rfl := Option.some.inj H
      go_wp2
      go_ret
      exact ⟨zE, zB⟩
     ·replace c37 := Bool.eq_false_iff.mpr c37; subst c37; rw [if_neg (show ¬ (false = true) by decide)] at H; by_cases c38 : a0_3 = 2
      ·rw [if_pos c38] at H; obtain ⟨c38b0, c38b1⟩ := zd c38; clear c38; by_cases c39 : (a0_6 == 0 && (a0_7 == 0 && (a0_8.toList == ([] : List UInt8) && (a0_9 == 0)))) = true
       ·rw [if_pos c39] at H; have c39b0 : (a0_6 == 0 && (a0_7 == 0 && (a0_8.toList == ([] : List UInt8) && (a0_9 == 0)))) = true := c39; (have c39b9 : (a0_6 == 0 && (a0_7 == 0 && (a0_8.toList.isEmpty && (a0_9 == 0)))) = true := by rw [show a0_8.toList.isEmpty = (a0_8.toList == ([] : List UInt8)) from by cases a0_8.toList <;> rfl]; exact c39b0)
        (try (have c39b1 : decide (a0_6 = 0 && (a0_7 == 0 && (a0_8.toList == ([] : List UInt8) && (a0_9 == 0)))) = true := by simpa using c39))
        (try (have c39b2 : (a0_6 == 0 && (a0_7 == 0 && (a0_8.toList == ([] : List UInt8) && (a0_9 == 0)))) = true := by simpa using c39))
        clear c39; by_cases c40 : a0_4 > (a0_5.size : Int)
        ·rw [if_pos c40] at H; have c40b0 := decide_eq_true c40; clear c40; obtain rfl := Option.some.inj H; obtain ⟨_, _, _, _, _, _, _, _, _, _, _, _, _, _, _, _, _, _, _, _, _, _, _, _, _, _, _, _, _, _, _, _, _, _⟩ := cz17 BK693.out
         go_wp2
         go_ret
         exact ⟨zE, zB⟩
        ·rw [if_neg c40] at H; have c40b0 := decide_eq_false c40; clear c40; obtain rfl := Option.some.inj H; obtain ⟨_, _, _, _, _, _, _, _, _, _, _, _, _, _, _, _, _, _, _, _, _, _, _, _, _, _, _, _, _, _, _, _, _, _⟩ := cz17 BK693.out
         go_wp2
         go_ret
         exact ⟨zE, zB⟩
       ·rw [if_neg c39] at H; (have c39b0 : (a0_6 == 0 && (a0_7 == 0 && (a0_8.toList == ([] : List UInt8) && (a0_9 == 0)))) = false := by simpa using c39); (have c39b9 : (a0_6 == 0 && (a0_7 == 0 && (a0_8.toList.isEmpty && (a0_9 == 0)))) = false := by rw [show a0_8.toList.isEmpty = (a0_8.toList == ([] : List UInt8)) from by cases a0_8.toList <;> rfl]; exact c39b0)
        (try (have c39b1 : decide (a0_6 = 0 && (a0_7 == 0 && (a0_8.toList == ([] : List UInt8) && (a0_9 == 0)))) = false := by simpa using c39))
        (try (have c39b2 : (a0_6 == 0 && (a0_7 == 0 && (a0_8.toList == ([] : List UInt8) && (a0_9 == 0)))) = false := by simpa using c39))
        (try (have c39b3 : ¬ (a0_6 = 0 && (a0_7 == 0 && (a0_8.toList == ([] : List UInt8) && (a0_9 == 0)))) := by simpa using c39))
        clear c39; obtain rfl := Option.some.inj H; obtain ⟨_, _, _, _, _, _, _, _, _, _, _, _, _, _, _, _, _, _, _, _, _, _, _, _, _, _, _, _, _, _, _, _, _, _⟩ := cz17 BK693.out
        go_wp2
        go_ret
        exact ⟨zE, zB⟩
      ·rw [if_neg c38] at H; obtain ⟨c38b0, c38b1⟩ := ze c38; by_cases c44 : a0_3 = 3
       ·rw [if_pos c44] at H; obtain ⟨c44b0, c44b1⟩ := zd c44; clear c44; by_cases c45 : a0_4 = 0
        ·rw [if_pos c45] at H; obtain ⟨c45b0, c45b1⟩ := zd c45; clear c45; replace H := Option.bind_eq_some_iff.mp H; obtain ⟨t698, A460, H⟩ := H; replace H : (if t698 = true then (if a0_6 = 4 then (some false) else (some (a0_9 == (a0_5.size : Int)))) else (some false)) = some r := H; have A46 := aM A460; clear A460; by_cases c47 : t698 = true
         ·subst c47; rw [if_pos rfl] at H; by_cases c48 : a0_6 = 4
          ·rw [if_pos c48] at H; obtain ⟨c48b0, c48b1⟩ := zd c48; clear c48; obtain rfl := Option.some.inj H; obtain ⟨_, _, _, _, _, _, _, _, _, _, _, _, _, _, _, _, _, _, _, _, _, _, _, _, _, _, _, _, _, _, _, _, _, _⟩ := cz17 BK693.out
           go_wp2_with (first | (go_at_call 44; (with_reducible refine (chunk_Right.calls kj27 a0_6 a0_7 a0_8 a0_9 true _ A46.out).mono ?_); rintro e w50 ⟨rfl, hb⟩; replace BK693 := aM (zX BK693.out hb); replace HB := aM (below_step zB hb); clear hb; obtain ⟨_, _, _, _, _, _, _, _, _, _, _, _, _, _, _, _, _, _, _, _, _, _, _, _, _, _, _, _, _, _, _, _, _, _⟩ := cz17 BK693.out))
           go_ret
           exact ⟨zE, zB⟩
          ·rw [if_neg c48] at H; obtain ⟨c48b0, c48b1⟩ := ze c48; obtain rfl := Option.some.inj H; obtain ⟨_, _, _, _, _, _, _, _, _, _, _, _, _, _, _, _, _, _, _, _, _, _, _, _, _, _, _, _, _, _, _, _, _, _⟩ := cz17 BK693.out
           go_wp2_with (first | (go_at_call 44; (with_reducible refine (chunk_Right.calls kj27 a0_6 a0_7 a0_8 a0_9 true _ A46.out).mono ?_); rintro e w53 ⟨rfl, hb⟩; replace BK693 := aM (zX BK693.out hb); replace HB := aM (below_step zB hb); clear hb; obtain ⟨_, _, _, _, _, _, _, _, _, _, _, _, _, _, _, _, _, _, _, _, _, _, _, _, _, _, _, _, _, _, _, _, _, _⟩ := cz17 BK693.out))
           go_ret
           exact ⟨zE, zB⟩
         ·replace c47 := Bool.eq_false_iff.mpr c47; subst c47; rw [if_neg (show ¬ (false = true) by decide)] at H; obtain rfl := Option.some.inj H; obtain ⟨_, _, _, _, _, _, _, _, _, _, _, _, _, _, _, _, _, _, _, _, _, _, _, _, _, _, _, _, _, _, _, _, _, _⟩ := cz17 BK693.out
          go_wp2_with (first | (go_at_call 44; (with_reducible refine (chunk_Right.calls kj27 a0_6 a0_7 a0_8 a0_9 false _ A46.out).mono ?_); rintro e w56 ⟨rfl, hb⟩; replace BK693 := aM (zX BK693.out hb); replace HB := aM (below_step zB hb); clear hb))
          go_ret
          exact ⟨zE, zB⟩
        ·rw [if_neg c45] at H; obtain ⟨c45b0, c45b1⟩ := ze c45; obtain rfl := Option.some.inj H; obtain ⟨_, _, _, _, _, _, _, _, _, _, _, _, _, _, _, _, _, _, _, _, _, _, _, _, _, _, _, _, _, _, _, _, _, _⟩ := cz17 BK693.out
         go_wp2
         go_ret
         exact ⟨zE, zB⟩
       ·rw [if_neg c44] at H; obtain ⟨c44b0, c44b1⟩ := ze c44; by_cases c58 : a0_3 = 4
        ·rw [if_pos c58] at H; obtain ⟨c58b0, c58b1⟩ := zd c58; clear c58; by_cases c59 : (a0_6 == 0 && (a0_7 == 0 && (a0_8.toList == ([] : List UInt8) && (a0_9 == 0)))) = true
         ·rw [if_pos c59] at H; have c59b0 : (a0_6 == 0 && (a0_7 == 0 && (a0_8.toList == ([] : List UInt8) && (a0_9 == 0)))) = true := c59; (have c59b9 : (a0_6 == 0 && (a0_7 == 0 && (a0_8.toList.isEmpty && (a0_9 == 0)))) = true := by rw [show a0_8.toList.isEmpty = (a0_8.toList == ([] : List UInt8)) from by cases a0_8.toList <;> rfl]; exact c59b0)
          (try (have c59b1 : decide (a0_6 = 0 && (a0_7 == 0 && (a0_8.toList == ([] : List UInt8) && (a0_9 == 0)))) = true := by simpa using c59))
          (try (have c59b2 : (a0_6 == 0 && (a0_7 == 0 && (a0_8.toList == ([] : List UInt8) && (a0_9 == 0)))) = true := by simpa using c59))
          clear c59; by_cases c60 : a0_0 = true
          ·subst c60; rw [if_pos rfl] at H; obtain rfl := Option.some.inj H; obtain ⟨_, _, _, _, _, _, _, _, _, _, _, _, _, _, _, _, _, _, _, _, _, _, _, _, _, _, _, _, _, _, _, _, _, _⟩ := cz17 BK693.out
           go_wp2
           go_ret
           exact ⟨zE, zB⟩
          ·replace c60 := Bool.eq_false_iff.mpr c60; subst c60; rw [if_neg (show ¬ (false = true) by decide)] at H; obtain rfl := Option.some.inj H; obtain ⟨_, _, _, _, _, _, _, _, _, _, _, _, _, _, _, _, _, _, _, _, _, _, _, _, _, _, _, _, _, _, _, _, _, _⟩ := cz17 BK693.out
           go_wp2
           go_ret
           exact ⟨zE, zB⟩
         ·rw [if_neg c59] at H; (have c59b0 : (a0_6 == 0 && (a0_7 == 0 && (a0_8.toList == ([] : List UInt8) && (a0_9 == 0)))) = false := by simpa using c59); (have c59b9 : (a0_6 == 0 && (a0_7 == 0 && (a0_8.toList.isEmpty && (a0_9 == 0)))) = false := by rw [show a0_8.toList.isEmpty = (a0_8.toList == ([] : List UInt8)) from by cases a0_8.toList <;> rfl]; exact c59b0)
          (try (have c59b1 : decide (a0_6 = 0 && (a0_7 == 0 && (a0_8.toList == ([] : List UInt8) && (a0_9 == 0)))) = false := by simpa using c59))
          (try (have c59b2 : (a0_6 == 0 && (a0_7 == 0 && (a0_8.toList == ([] : List UInt8) && (a0_9 == 0)))) = false := by simpa using c59))
          (try (have c59b3 : ¬ (a0_6 = 0 && (a0_7 == 0 && (a0_8.toList == ([] : List UInt8) && (a0_9 == 0)))) := by simpa using c59))
          clear c59; obtain rfl := Option.some.inj H; obtain ⟨_, _, _, _, _, _, _, _, _, _, _, _, _, _, _, _, _, _, _, _, _, _, _, _, _, _, _, _, _, _, _, _, _, _⟩ := cz17 BK693.out
          go_wp2
          go_ret
          exact ⟨zE, zB⟩
        ·rw [if_neg c58] at H; obtain ⟨c58b0, c58b1⟩ := ze c58; obtain rfl := Option.some.inj H; obtain ⟨_, _, _, _, _, _, _, _, _, _, _, _, _, _, _, _, _, _, _, _, _, _, _, _, _, _, _, _, _, _, _, _, _, _⟩ := cz17 BK693.out
         go_wp2
         go_ret
         exact ⟨zE, zB⟩
 ·rw [if_neg c2] at H; obtain ⟨c2b0, c2b1⟩ := ze c2; by_cases c65 : a0_2.size + a0_5.size ≤ 9223372036854775807
  ·rw [if_pos c65] at H; have c65b0 := eq_true c65; have c65b1 := decide_eq_true c65
   try have c65b2 : (9223372036854775807 < a0_2.size + a0_5.size) = False := eq_false (Nat.not_lt.2 c65)
   by_cases c66 : (a0_2 ++ a0_5).toList = ([] : List UInt8)
   ·rw [if_pos c66] at H; obtain ⟨c66b0, c66b1⟩ := zd c66; clear c66; by_cases c67 : (a0_3 == 0 && (a0_4 == 0)) = true
    ·rw [if_pos c67] at H; have c67b0 : (a0_3 == 0 && (a0_4 == 0)) = true := c67
     (try (have c67b1 : decide (a0_3 = 0 && (a0_4 == 0)) = true := by simpa using c67))
     (try (have c67b2 : (a0_3 == 0 && (a0_4 == 0)) = true := by simpa using c67))
     clear c67; by_cases c68 : (a0_6 == 0 && (a0_7 == 0 && (a0_8.toList == ([] : List UInt8) && (a0_9 == 0)))) = true
     ·rw [if_pos c68] at H; have c68b0 : (a0_6 == 0 && (a0_7 == 0 && (a0_8.toList == ([] : List UInt8) && (a0_9 == 0)))) = true := c68; (have c68b9 : (a0_6 == 0 && (a0_7 == 0 && (a0_8.toList.isEmpty && (a0_9 == 0)))) = true := by rw [show a0_8.toList.isEmpty = (a0_8.toList == ([] : List UInt8)) from by cases a0_8.toList <;> rfl]; exact c68b0)
      (try (have c68b1 : decide (a0_6 = 0 && (a0_7 == 0 && (a0_8.toList == ([] : List UInt8) && (a0_9 == 0)))) = true := by simpa using c68))
      (try (have c68b2 : (a0_6 == 0 && (a0_7 == 0 && (a0_8.toList == ([] : List UInt8) && (a0_9 == 0)))) = true := by simpa using c68))
      clear c68; replace H := Option.bind_eq_some_iff.mp H; obtain ⟨t697, A690, H⟩ := H; replace H : (some t697) = some r := H; have A69 := aM A690; clear A690; obtain rfl := Option.some.inj H
      go_enter Tryz.func27, Tryz.ntmps27
      go_wp2_with (first | ((with_reducible refine gate_dst (N := 1) rfl ?_); (try (refine gate_guard (by rfl) ?_; dsimp only)); refine box_event ?hg (N := 1) ?hd (cs := #[.bool a0_0, .string a0_1, .string a0_2, .int .i64 a0_3, .int .i64 a0_4, .string a0_5, .int .i64 a0_6, .int .i64 a0_7, .string a0_8, .int .i64 a0_9, .string a0_10, .string a0_11, .int .i64 a0_12, .string a0_13, .int .i64 a0_14, .slice A0_15 l0_15.length c0_15, .int .i64 a0_16]) (t := 32) ?hr ?_; (case hd => rfl); (case hg => rfl); (case hr => exact zG); intro gb693 hg w70 hbox hb; have BK693 := aM hbox; have GW693 := aM (by rw [hg]; exact (below_size zB) : w.heap.size ≤ gb693); replace HB := aM (below_step zB hb); have GE693 := GW693; clear hb hbox hg; obtain ⟨_, _, _, _, _, _, _, _, _, _, _, _, _, _, _, _, _, _, _, _, _, _, _, _, _, _, _, _, _, _, _, _, _, _⟩ := cz17 BK693.out) | (go_at_call 41; (with_reducible refine (message_none.calls a0_10 a0_11 a0_12 a0_13 a0_14 _ _ l0_15 t697 _ ?side1 ?side2 A69.out).mono ?_); (case side1 => exact zC (Kd.C_below HR0_15.out HB.out)); (case side2 => exact HC0_15.out); rintro e w72 ⟨rfl, hb⟩; replace BK693 := aM (zX BK693.out hb); replace HB := aM (below_step zB hb); clear hb))
      go_ret
      exact ⟨zE, zB⟩
     ·rw [if_neg c68] at H; (have c68b0 : (a0_6 == 0 && (a0_7 == 0 && (a0_8.toList == ([] : List UInt8) && (a0_9 == 0)))) = false := by simpa using c68); (have c68b9 : (a0_6 == 0 && (a0_7 == 0 && (a0_8.toList.isEmpty && (a0_9 == 0)))) = false := by rw [show a0_8.toList.isEmpty = (a0_8.toList == ([] : List UInt8)) from by cases a0_8.toList <;> rfl]; exact c68b0)
      (try (have c68b1 : decide (a0_6 = 0 && (a0_7 == 0 && (a0_8.toList == ([] : List UInt8) && (a0_9 == 0)))) = false := by simpa using c68))
      (try (have c68b2 : (a0_6 == 0 && (a0_7 == 0 && (a0_8.toList == ([] : List UInt8) && (a0_9 == 0)))) = false := by simpa using c68))
      (try (have c68b3 : ¬ (a0_6 = 0 && (a0_7 == 0 && (a0_8.toList == ([] : List UInt8) && (a0_9 == 0)))) := by simpa using c68))
      clear c68; obtain rfl := Option.some.inj H
      go_enter Tryz.func27, Tryz.ntmps27
      go_wp2_with (first | ((with_reducible refine gate_dst (N := 1) rfl ?_); (try (refine gate_guard (by rfl) ?_; dsimp only)); refine box_event ?hg (N := 1) ?hd (cs := #[.bool a0_0, .string a0_1, .string a0_2, .int .i64 a0_3, .int .i64 a0_4, .string a0_5, .int .i64 a0_6, .int .i64 a0_7, .string a0_8, .int .i64 a0_9, .string a0_10, .string a0_11, .int .i64 a0_12, .string a0_13, .int .i64 a0_14, .slice A0_15 l0_15.length c0_15, .int .i64 a0_16]) (t := 32) ?hr ?_; (case hd => rfl); (case hg => rfl); (case hr => exact zG); intro gb693 hg w73 hbox hb; have BK693 := aM hbox; have GW693 := aM (by rw [hg]; exact (below_size zB) : w.heap.size ≤ gb693); replace HB := aM (below_step zB hb); have GE693 := GW693; clear hb hbox hg; obtain ⟨_, _, _, _, _, _, _, _, _, _, _, _, _, _, _, _, _, _, _, _, _, _, _, _, _, _, _, _, _, _, _, _, _, _⟩ := cz17 BK693.out))
      go_ret
      exact ⟨zE, zB⟩
    ·rw [if_neg c67] at H; (have c67b0 : (a0_3 == 0 && (a0_4 == 0)) = false := by simpa using c67)
     (try (have c67b1 : decide (a0_3 = 0 && (a0_4 == 0)) = false := by simpa using c67))
     (try (have c67b2 : (a0_3 == 0 && (a0_4 == 0)) = false := by simpa using c67))
     (try (have c67b3 : ¬ (a0_3 = 0 && (a0_4 == 0)) := by simpa using c67))
     clear c67; obtain rfl := Option.some.inj H
     go_enter Tryz.func27, Tryz.ntmps27
     go_wp2_with (first | ((with_reducible refine gate_dst (N := 1) rfl ?_); (try (refine gate_guard (by rfl) ?_; dsimp only)); refine box_event ?hg (N := 1) ?hd (cs := #[.bool a0_0, .string a0_1, .string a0_2, .int .i64 a0_3, .int .i64 a0_4, .string a0_5, .int .i64 a0_6, .int .i64 a0_7, .string a0_8, .int .i64 a0_9, .string a0_10, .string a0_11, .int .i64 a0_12, .string a0_13, .int .i64 a0_14, .slice A0_15 l0_15.length c0_15, .int .i64 a0_16]) (t := 32) ?hr ?_; (case hd => rfl); (case hg => rfl); (case hr => exact zG); intro gb693 hg w75 hbox hb; have BK693 := aM hbox; have GW693 := aM (by rw [hg]; exact (below_size zB) : w.heap.size ≤ gb693); replace HB := aM (below_step zB hb); have GE693 := GW693; clear hb hbox hg; obtain ⟨_, _, _, _, _, _, _, _, _, _, _, _, _, _, _, _, _, _, _, _, _, _, _, _, _, _, _, _, _, _, _, _, _, _⟩ := cz17 BK693.out))
     go_ret
     exact ⟨zE, zB⟩
   ·rw [if_neg c66] at H; obtain ⟨c66b0, c66b1⟩ := ze c66; obtain rfl := Option.some.inj H
    go_enter Tryz.func27, Tryz.ntmps27
    go_wp2_with (first | ((with_reducible refine gate_dst (N := 1) rfl ?_); (try (refine gate_guard (by rfl) ?_; dsimp only)); refine box_event ?hg (N := 1) ?hd (cs := #[.bool a0_0, .string a0_1, .string a0_2, .int .i64 a0_3, .int .i64 a0_4, .string a0_5, .int .i64 a0_6, .int .i64 a0_7, .string a0_8, .int .i64 a0_9, .string a0_10, .string a0_11, .int .i64 a0_12, .string a0_13, .int .i64 a0_14, .slice A0_15 l0_15.length c0_15, .int .i64 a0_16]) (t := 32) ?hr ?_; (case hd => rfl); (case hg => rfl); (case hr => exact zG); intro gb693 hg w77 hbox hb; have BK693 := aM hbox; have GW693 := aM (by rw [hg]; exact (below_size zB) : w.heap.size ≤ gb693); replace HB := aM (below_step zB hb); have GE693 := GW693; clear hb hbox hg; obtain ⟨_, _, _, _, _, _, _, _, _, _, _, _, _, _, _, _, _, _, _, _, _, _, _, _, _, _, _, _, _, _, _, _, _, _⟩ := cz17 BK693.out))
    go_ret
    exact ⟨zE, zB⟩
  ·exact zf c65 H

end Go.Proofs.YtapeodbgobkjeaaGreatDoor.P
