/- Printed by a program of the session out of the translation: plain Lean functions, each with the contract that the Go function computes it. -/
import Derived.Test.YthmallhjbhphgaaGreatDoorHZm
import Derived.Test.YthmallhjbhphgaaGreatDoorHZ
import Derived.Test.YthmallhjbhphgaaGreatDoorPx0
import Derived.Test.YthmallhjbhphgaaGreatDoorPx1
import Derived.Test.YthmallhjbhphgaaGreatDoorHZB
namespace Go.Proofs.YthmallhjbhphgaaGreatDoor.P
open Go.RowKit Go.Proofs.YthmallhjbhphgaaGreatDoorW.PrintWords Go.Proofs.YthmallhjbhphgaaGreatDoorW.PrintLast Go.Proofs.YthmallhjbhphgaaGreatDoorW.PrintMore
attribute [local go_sem] max2_int min2_int max_two min_two max_three min_three max_four min_four   -- for this text's walks alone
set_option linter.unusedVariables false
set_option linter.unusedSimpArgs false

def key_items.l0 : Nat → List ByteArray → List ByteArray → Int → Int → Option (List ByteArray)
 | 0, _, _, _, _ => none
 | k + 1, x4, x9, x10, x11 => if x11 < x10 then (if 0 ≤ x11 then (if x11 < (x9.length : Int) then ((field_Items.f (rdOf ByteArray.empty x9 x11)).bind fun t158 => (if x4.length + t158.length < 8796093022208 then (key_items.l0 k (x4 ++ t158) x9 x10 (wrap64 (x11 + 1))) else (none))) else (none)) else (none)) else (some x4)
def key_items.f (k : Nat) (l0 : List (S37)) (a1 : ByteArray) : Option (List ByteArray) := (field_Get.f k l0 a1).bind fun t154 => (key_items.l0 k ([] : List ByteArray) t154 (t154.length : Int) 0)
theorem key_items.mono_l : ∀ k, (∀ y0 y1 y2 y3, LeO (key_items.l0 k y0 y1 y2 y3) (key_items.l0 (k + 1) y0 y1 y2 y3))
 | 0 => fun _ _ _ _ r h => by simp [key_items.l0] at h
 | k + 1 => by
  have ih0 := key_items.mono_l k
  ·intro y0 y1 y2 y3
   unfold key_items.l0; have m0 := @field_Get.mono; exact zM
theorem key_items.mono : ∀ a0 a1 k, LeO (key_items.f k a0 a1) (key_items.f (k + 1) a0 a1) := by
 intro a0 a1 k
 have ih0 := key_items.mono_l k
 unfold key_items.f; have m0 := @field_Get.mono; exact zM
set_option maxHeartbeats 8000000 in
set_option maxRecDepth 100000 in
theorem key_items.calls (k : Nat) (A0 : Option Addr) (c0 : Nat) (l0 : List (S37)) (a1 : ByteArray) (r : List ByteArray) (w : World) (hr0 : Kd.C k37 w A0 l0.length l0) (hc0 : l0.length ≤ c0) (h : key_items.f k l0 a1 = some r) :
  Calls Tryz.prog 36 #[.slice A0 l0.length c0, .string a1] w fun e w' => ∃ v0_ : Value, e = .returned (v0_) ∧ Kd.R Kd.string 9 w' w.heap.size (fun _ => True) v0_ r ∧ Below w.heap.size w w' := by
 have HR0 := aM hr0; have HC0 := aM hc0; clear hr0 hc0; have HB := aM (Below.refl w.heap.size w); have H : ((field_Get.f k l0 a1).bind fun t154 => (key_items.l0 k ([] : List ByteArray) t154 (t154.length : Int) 0)) = some r := h; clear h; replace H := Option.bind_eq_some_iff.mp H; obtain ⟨t154, A30, H⟩ := H; replace H : (key_items.l0 k ([] : List ByteArray) t154 (t154.length : Int) 0) = some r := H; have A3 := aM A30; clear A30; have H' := aM H; clear H
 go_enter Tryz.func36, Tryz.ntmps36
 go_wp2_with (first | ((with_reducible refine gate_callee (f := 32) rfl ?_); refine goesL_ (some 9) rfl rfl Tryz.func32 (by kernel_rfl) rfl #[.slice A0 l0.length c0, .string a1] rfl zL ?_; (with_reducible refine (field_Get.calls k _ _ l0 a1 t154 _ ?side1 ?side2 A3.out).mono ?_); (case side1 => repeat (first | exact HR0.out | (with_reducible refine Kd.C_alloc ?_ _) | (with_reducible refine Kd.C_drewN ?_ _) | (with_reducible refine Kd.C_drew ?_))); (case side2 => exact HC0.out); rintro e w4 ⟨v155, rfl, ho0, hb⟩; refine ⟨_, rfl, ?_⟩; have HO156 := aM (Kd.R_lower ho0 (below_size zB)); replace HB := aM (below_step zB hb); clear hb ho0; obtain ⟨Ao5, co5, eo5⟩ := Kd.R_slice HO156.out; subst eo5))
 go_loopg [4, 11] k (fun kq v4 v11 w' => ∃ (x4_1 : List ByteArray) (x11_1 : Int), v11 = .int .i64 x11_1 ∧ Aside0 (key_items.l0 kq x4_1 t154 (t154.length : Int) x11_1 = some r) ∧ Aside0 (kq ≤ k) ∧ Aside0 (Kd.R Kd.string 9 w' w.heap.size (fun k_ => some k_ ≠ ((.slice Ao5 t154.length co5) : Value).ownBlock) v4 x4_1) ∧ Aside0 (Kd.R Kd.string 9 w' w.heap.size (fun k_ => some k_ ≠ (v4 : Value).ownBlock) (.slice Ao5 t154.length co5) t154) ∧ Aside0 (Below w.heap.size w w'))
 case atStart => exact ⟨(([] : List ByteArray)), (0), zR, H', ⟨Nat.le_refl _⟩, ⟨by first | exact Kd.R_nil _ _ _ _ _ | exact Kd.N_nil _ _ _ _ _ | exact Kd.V_nil _ _ _ _ _ | exact Kd.Q_nil _ _ _ _ _ | exact Kd.S_nil _ _ _ _ _⟩, ⟨by (with_reducible repeat (first | apply rA | apply rN | apply rD)); exact Kd.R_mono HO156.out (fun _ hk => (by simp [Value.ownBlock]))⟩, ⟨zB⟩⟩
 case round =>
  clear H'; (try clear p2); (try clear c3); obtain ⟨x4_1, x11_1, rfl, HA, HK1, HO_4, HO_9, HB⟩ := hrel; cases gk with
  | zero => exact absurd HA.out (by simp [key_items.l0])
  | succ k1 =>
   have H := HA.out; clear HA; simp only [key_items.l0] at H; by_cases c6 : x11_1 < (t154.length : Int)
   ·rw [if_pos c6] at H; have c6b0 := decide_eq_true c6; clear c6; by_cases c7 : 0 ≤ x11_1
    ·rw [if_pos c7] at H; have c7b0 := decide_eq_true c7; clear c7; by_cases c8 : x11_1 < (t154.length : Int)
     ·rw [if_pos c8] at H; have c8b0 := decide_eq_true c8; clear c8; replace H := Option.bind_eq_some_iff.mp H; obtain ⟨t158, A90, H⟩ := H; replace H : (if x4_1.length + t158.length < 8796093022208 then (key_items.l0 k1 (x4_1 ++ t158) t154 (t154.length : Int) (wrap64 (x11_1 + 1))) else (none)) = some r := H; have A9 := aM A90; clear A90; by_cases c10 : x4_1.length + t158.length < 8796093022208
      ·rw [if_pos c10] at H; have LMc10 := aM c10; clear c10; obtain ⟨y161, hy161⟩ : ∃ y_ : List ByteArray, y_ = (x4_1 ++ t158) := ⟨_, rfl⟩; (replace H : (key_items.l0 k1 y161 t154 (t154.length : Int) (wrap64 (x11_1 + 1))) = some r := zN hy161 H); have Ny161 := aM hy161; clear hy161; have H' := aM H; clear H; have p157 : 0 ≤ (x11_1 : Int) := of_decide_eq_true zA; have q157 : x11_1 < (t154.length : Int) := of_decide_eq_true zA; obtain ⟨ad157, e157, hx157_0⟩ := Kd.at_string (Kd.R_reads' HO_9.out).2.2 x11_1 p157 q157; cases e157; replace p157 := eq_true p157; replace q157 := eq_true q157
       go_wp2_with (first | ((with_reducible refine gate_callee (f := 50) rfl ?_); refine goesL_ (some 17) rfl rfl Tryz.func50 (by kernel_rfl) rfl #[.string (rdOf ByteArray.empty t154 x11_1)] rfl zL ?_; (with_reducible refine (field_Items.calls (rdOf ByteArray.empty t154 x11_1) t158 _ A9.out).mono ?_); rintro e w11 ⟨v159, rfl, ho0, hb⟩; refine ⟨_, rfl, ?_⟩; have HO160 := aM (Kd.R_lower (Kd.R_new' (Kd.R_new' ho0 (Kd.R_lt (zO HO_4.out))) (Kd.R_lt (zO HO_9.out))) (below_size zB)); replace HO_4 := aM (Kd.R_elder' (zO HO_4.out) (Kd.R_base ho0) hb); replace HO_9 := aM (Kd.R_elder' (zO HO_9.out) (Kd.R_base ho0) hb); replace HB := aM (below_step zB hb); clear hb ho0; obtain ⟨Ao13, co13, eo13⟩ := Kd.R_slice HO160.out; subst eo13) | ((with_reducible refine gate_builtin (b := .append) (xs := #[.tmp 15, .tmp 17]) rfl ?_); at_builtin; refine Kd.R_append_rows Kd.string (w0 := w) w.heap.size rfl (.tmp 15) (.tmp 17) 27 9 (.string ⟨#[]⟩) 16 rfl Tryz.underlying27 info9 rfl (by decide) (by omega) u4 x4_1 t158 _ _ _ (fun k_ => some k_ ≠ (.slice (some ad157) t154.length co5 : Value).ownBlock ∧ some k_ ≠ (.slice Ao13 t158.length co13 : Value).ownBlock) (fun _ => False) rfl rfl ?aO ?aR (fun _ _ h => h) (fun _ h => h.elim) ?aF ?aB ?aS ?aL ?_; (case aR => exact zC ((Kd.R_reads' HO160.out).2.2)); (case aB => exact zB); (case aF => exact (fun k_ hk => ⟨Kd.fresh' (Kd.R_lt (zO HO_9.out)) k_ hk, Kd.fresh' (Kd.R_lt (zO HO160.out)) k_ hk⟩)); (case aO => exact zO HO_4.out); (case aS => exact (below_size zB)); (case aL => have := LMc10.out; omega); intro v162 w12 ho hb hg hat; rw [← Ny161.out] at ho; replace HO_9 := aM (Kd.R_after (ok := (fun k_ => some k_ ≠ (.slice Ao13 t158.length co13 : Value).ownBlock)) (by (with_reducible repeat (first | apply rA | apply rN | apply rD)); exact Kd.R_mono HO_9.out (fun _ hk => ⟨hk.2, hk.1⟩)) hg hat); replace HO160 := aM (Kd.R_after (ok := (fun k_ => some k_ ≠ (.slice (some ad157) t154.length co5 : Value).ownBlock)) (by (with_reducible repeat (first | apply rA | apply rN | apply rD)); exact Kd.R_mono HO160.out (fun _ hk => ⟨hk.2, hk.1.2⟩)) hg hat); replace HB := aM hb; have HO163 := aM ho; clear HO_4; clear ho hb hg hat))
       go_roundg k1
       case measure => have := HK1.out; omega
       case rel => exact ⟨(y161), (wrap64 (x11_1 + 1)), zR, H', ⟨by have := HK1.out; omega⟩, ⟨by (with_reducible repeat (first | apply rA | apply rN | apply rD)); exact Kd.R_mono HO163.out (fun _ hk => hk.1)⟩, ⟨by (with_reducible repeat (first | apply rA | apply rN | apply rD)); exact Kd.R_mono HO_9.out (fun _ hk => hk.2)⟩, ⟨zB⟩⟩
      ·exact zf c10 H
     ·exact zf c8 H
    ·exact zf c7 H
   ·rw [if_neg c6] at H; have c6b0 := decide_eq_false c6; clear c6; obtain rfl := Option.some.inj H
    go_wp2
    go_ret
    exact ⟨_, zE, by (with_reducible repeat (first | apply rA | apply rN | apply rD)); exact Kd.R_mono HO_4.out (fun _ hk => trivial), zB⟩

def slices_Index_string_string.l0 : Nat → List ByteArray → ByteArray → Int → Int → Option (Int)
 | 0, _, _, _, _ => none
 | k + 1, x0, x1, x7, x8 => if x8 < x7 then (if 0 ≤ x8 then (if x8 < (x0.length : Int) then (if x1.toList = (rdOf ByteArray.empty x0 x8).toList then (some x8) else (slices_Index_string_string.l0 k x0 x1 x7 (wrap64 (x8 + 1)))) else (none)) else (none)) else (some (-1))
def slices_Index_string_string.f (k : Nat) (l0 : List ByteArray) (a1 : ByteArray) : Option (Int) := slices_Index_string_string.l0 k l0 a1 (l0.length : Int) 0
theorem slices_Index_string_string.mono_l : ∀ k, (∀ y0 y1 y2 y3, LeO (slices_Index_string_string.l0 k y0 y1 y2 y3) (slices_Index_string_string.l0 (k + 1) y0 y1 y2 y3))
 | 0 => fun _ _ _ _ r h => by simp [slices_Index_string_string.l0] at h
 | k + 1 => by
  have ih0 := slices_Index_string_string.mono_l k
  ·intro y0 y1 y2 y3
   unfold slices_Index_string_string.l0; exact zM
theorem slices_Index_string_string.mono : ∀ a0 a1 k, LeO (slices_Index_string_string.f k a0 a1) (slices_Index_string_string.f (k + 1) a0 a1) := by
 intro a0 a1 k
 have ih0 := slices_Index_string_string.mono_l k
 unfold slices_Index_string_string.f; exact zM
set_option maxHeartbeats 8000000 in
set_option maxRecDepth 100000 in
theorem slices_Index_string_string.calls (k : Nat) (A0 : Option Addr) (c0 : Nat) (l0 : List ByteArray) (a1 : ByteArray) (r : Int) (w : World) (hr0 : Kd.C Kd.string w A0 l0.length l0) (hc0 : l0.length ≤ c0) (h : slices_Index_string_string.f k l0 a1 = some r) :
  Calls Tryz.prog 66 #[.slice A0 l0.length c0, .string a1] w fun e w' => e = .returned (.int .i64 r) ∧ Drawn0 w w' := by
 have HR0 := aM hr0; have HC0 := aM hc0; clear hr0 hc0; have H : (slices_Index_string_string.l0 k l0 a1 (l0.length : Int) 0) = some r := h; clear h; have H' := aM H; clear H
 go_enter Tryz.func66, Tryz.ntmps66
 go_wp2
 go_loopg [8] k (fun kq v8 w' => ∃ (x8_1 : Int), v8 = .int .i64 x8_1 ∧ Aside0 (slices_Index_string_string.l0 kq l0 a1 (l0.length : Int) x8_1 = some r) ∧ Aside0 (kq ≤ k) ∧ Drawn0 w w')
 case atStart => exact ⟨(0), zR, H', ⟨Nat.le_refl _⟩, zD⟩
 case round =>
  clear H'; (try clear p2); obtain ⟨x8_1, rfl, HA, HK1, ⟨m1, rfl⟩⟩ := hrel; cases gk with
  | zero => exact absurd HA.out (by simp [slices_Index_string_string.l0])
  | succ k1 =>
   have H := HA.out; clear HA; simp only [slices_Index_string_string.l0] at H; by_cases c3 : x8_1 < (l0.length : Int)
   ·rw [if_pos c3] at H; have c3b0 := decide_eq_true c3; clear c3; by_cases c4 : 0 ≤ x8_1
    ·rw [if_pos c4] at H; have c4b0 := decide_eq_true c4; clear c4; by_cases c5 : x8_1 < (l0.length : Int)
     ·rw [if_pos c5] at H; have c5b0 := decide_eq_true c5; clear c5; by_cases c6 : a1.toList = (rdOf ByteArray.empty l0 x8_1).toList
      ·rw [if_pos c6] at H; obtain ⟨c6b0, c6b1⟩ := zd c6; clear c6; obtain rfl := Option.some.inj H; have p164 : 0 ≤ (x8_1 : Int) := of_decide_eq_true zA; have q164 : x8_1 < (l0.length : Int) := of_decide_eq_true zA; obtain ⟨ad164, e164, hx164_0⟩ := Kd.at_string HR0.out x8_1 p164 q164; cases e164; replace p164 := eq_true p164; replace q164 := eq_true q164
       go_wp2
       go_ret
       exact ⟨zR, zD⟩
      ·rw [if_neg c6] at H; obtain ⟨c6b0, c6b1⟩ := ze c6; have H' := aM H; clear H; have p164 : 0 ≤ (x8_1 : Int) := of_decide_eq_true zA; have q164 : x8_1 < (l0.length : Int) := of_decide_eq_true zA; obtain ⟨ad164, e164, hx164_0⟩ := Kd.at_string HR0.out x8_1 p164 q164; cases e164; replace p164 := eq_true p164; replace q164 := eq_true q164
       go_wp2
       go_roundg k1
       case measure => have := HK1.out; omega
       case rel => exact ⟨(wrap64 (x8_1 + 1)), zR, H', ⟨by have := HK1.out; omega⟩, zD⟩
     ·exact zf c5 H
    ·exact zf c4 H
   ·rw [if_neg c3] at H; have c3b0 := decide_eq_false c3; clear c3; obtain rfl := Option.some.inj H
    go_wp2
    go_ret
    exact ⟨zR, zD⟩

def slices_Contains_string_string.f (k : Nat) (l0 : List ByteArray) (a1 : ByteArray) : Option (Bool) := (slices_Index_string_string.f k l0 a1).bind fun t165 => (some (decide (t165 ≥ 0)))
theorem slices_Contains_string_string.mono : ∀ a0 a1 k, LeO (slices_Contains_string_string.f k a0 a1) (slices_Contains_string_string.f (k + 1) a0 a1) := by
 intro a0 a1 k
 unfold slices_Contains_string_string.f; have m0 := @slices_Index_string_string.mono; exact zM
set_option maxHeartbeats 8000000 in
set_option maxRecDepth 100000 in
theorem slices_Contains_string_string.calls (k : Nat) (A0 : Option Addr) (c0 : Nat) (l0 : List ByteArray) (a1 : ByteArray) (r : Bool) (w : World) (hr0 : Kd.C Kd.string w A0 l0.length l0) (hc0 : l0.length ≤ c0) (h : slices_Contains_string_string.f k l0 a1 = some r) :
  Calls Tryz.prog 48 #[.slice A0 l0.length c0, .string a1] w fun e w' => e = .returned (.bool r) ∧ Drawn0 w w' := by
 have HR0 := aM hr0; have HC0 := aM hc0; clear hr0 hc0; have H : ((slices_Index_string_string.f k l0 a1).bind fun t165 => (some (decide (t165 ≥ 0)))) = some r := h; clear h; replace H := Option.bind_eq_some_iff.mp H; obtain ⟨t165, A30, H⟩ := H; replace H : (some (decide (t165 ≥ 0))) = some r := H; have A3 := aM A30; clear A30; obtain rfl := Option.some.inj H
 go_enter Tryz.func48, Tryz.ntmps48
 go_wp2_with (first | ((with_reducible refine gate_callee (f := 66) rfl ?_); refine goesL_ (some 7) rfl rfl Tryz.func66 (by kernel_rfl) rfl #[.slice A0 l0.length c0, .string a1] rfl zL ?_; (with_reducible refine (slices_Index_string_string.calls k _ _ l0 a1 t165 _ ?side1 ?side2 A3.out).mono ?_); (case side1 => repeat (first | exact HR0.out | (with_reducible refine Kd.C_alloc ?_ _) | (with_reducible refine Kd.C_drewN ?_ _) | (with_reducible refine Kd.C_drew ?_))); (case side2 => exact HC0.out); rintro e w' ⟨rfl, ⟨nd, rfl⟩⟩; refine ⟨_, rfl, ?_⟩))
 go_ret
 exact ⟨zR, zD⟩

mutual
def num_digit.j2 : Nat → Int → Int → Option (Int)
 | 0, _, _ => none
 | k + 1, x1, x5 => if x1 = 16 then (some (wrap64 ((wrap64 (x5 - 97)) + 10))) else (some (-1))
def num_digit.j0 : Nat → Int → Int → Int → Bool → Option (Int)
 | 0, _, _, _, _ => none
 | k + 1, x0, x1, x5, x8 => if x8 = true then (some (wrap64 (x5 - 48))) else (if x0 ≥ 65 then (num_digit.j1 k x0 x1 x5 (decide (x0 ≤ 70))) else (num_digit.j1 k x0 x1 x5 false))
def num_digit.j1 : Nat → Int → Int → Int → Bool → Option (Int)
 | 0, _, _, _, _ => none
 | k + 1, x0, x1, x5, x15 => if x15 = true then (num_digit.j2 k x1 (wrap64 (x5 + 32))) else (if x0 ≥ 97 then (if x0 ≤ 102 then (num_digit.j2 k x1 x5) else (some (-1))) else (some (-1)))
end
def num_digit.f (k : Nat) (a0 : Int) (a1 : Int) : Option (Int) := if a0 ≥ 48 then (num_digit.j0 k a0 a1 (wrap64 (a0)) (decide (a0 ≤ 57))) else (num_digit.j0 k a0 a1 (wrap64 (a0)) false)
theorem num_digit.mono_l : ∀ k, (∀ y0 y1, LeO (num_digit.j2 k y0 y1) (num_digit.j2 (k + 1) y0 y1)) ∧ (∀ y0 y1 y2 y3, LeO (num_digit.j0 k y0 y1 y2 y3) (num_digit.j0 (k + 1) y0 y1 y2 y3)) ∧ (∀ y0 y1 y2 y3, LeO (num_digit.j1 k y0 y1 y2 y3) (num_digit.j1 (k + 1) y0 y1 y2 y3))
 | 0 => ⟨fun _ _ r h => by simp [num_digit.j2] at h, fun _ _ _ _ r h => by simp [num_digit.j0] at h, fun _ _ _ _ r h => by simp [num_digit.j1] at h⟩
 | k + 1 => by
  obtain ⟨ih0, ih1, ih2⟩ := num_digit.mono_l k
  refine ⟨?_, ?_, ?_⟩
  ·intro y0 y1
   unfold num_digit.j2; exact zM
  ·intro y0 y1 y2 y3
   unfold num_digit.j0; exact zM
  ·intro y0 y1 y2 y3
   unfold num_digit.j1; exact zM
theorem num_digit.mono : ∀ a0 a1 k, LeO (num_digit.f k a0 a1) (num_digit.f (k + 1) a0 a1) := by
 intro a0 a1 k
 obtain ⟨ih0, ih1, ih2⟩ := num_digit.mono_l k
 unfold num_digit.f; exact zM
set_option maxHeartbeats 8000000 in
set_option maxRecDepth 100000 in
theorem num_digit.calls (k : Nat) (a0 : Int) (a1 : Int) (r : Int) (w : World) (h : num_digit.f k a0 a1 = some r) :
  Calls Tryz.prog 112 #[.int .u8 a0, .int .i64 a1] w fun e w' => e = .returned (.int .i64 r) ∧ Drawn0 w w' := by
 have H : (if a0 ≥ 48 then (num_digit.j0 k a0 a1 (wrap64 (a0)) (decide (a0 ≤ 57))) else (num_digit.j0 k a0 a1 (wrap64 (a0)) false)) = some r := h; clear h; have HC3 := aM H; clear H
 go_enter Tryz.func112, Tryz.ntmps112
 go_upto_block 3 with (fail)
 go_cut [5] (fun v5 wc => ∃ (kq : Nat) (x5_2 : Int), v5 = .int .i64 x5_2 ∧ Aside0 (num_digit.j2 kq a1 x5_2 = some r) ∧ Aside0 (kq ≤ k) ∧ Drawn0 w wc)
 case first =>
  have H := HC3.out; clear HC3; have HC4 := aM H; clear H
  go_upto_region 2 with (fail)
  go_cut [8] (fun v8 wc => ∃ (kq : Nat) (x8_3 : Bool), v8 = .bool x8_3 ∧ Aside0 (num_digit.j0 kq a0 a1 (wrap64 (a0)) x8_3 = some r) ∧ Aside0 (kq ≤ k) ∧ Drawn0 w wc)
  case first =>
   have H := HC4.out; clear HC4; by_cases c5 : a0 ≥ 48
   ·rw [if_pos c5] at H; have c5b0 := decide_eq_true c5; clear c5
    (first | rw [c5b0] | (simp only [i64_w, i32_w]; rw [c5b0]) | skip)
    have H' := aM H; clear H
    go_wp2
    go_meet
    case rel => exact ⟨_, (decide (a0 ≤ 57)), zR, H', ⟨by first | omega | exact Nat.le_refl _⟩, zD⟩
   ·rw [if_neg c5] at H; have c5b0 := decide_eq_false c5; clear c5
    (first | rw [c5b0] | (simp only [i64_w, i32_w]; rw [c5b0]) | skip)
    have H' := aM H; clear H
    go_wp2
    go_meet
    case rel => exact ⟨_, (false), zR, H', ⟨by first | omega | exact Nat.le_refl _⟩, zD⟩
  case rest =>
   clear HC4; (try clear c1); (try clear p2); (try clear c5); (try clear c5b0); obtain ⟨kq, x8_3, rfl, HA, HJ3, ⟨mc3, rfl⟩⟩ := hcut; cases kq with
   | zero => exact absurd HA.out (by simp [num_digit.j0])
   | succ kj3 =>
    have H := HA.out; clear HA; simp only [num_digit.j0] at H; by_cases c6 : x8_3 = true
    ·subst c6; rw [if_pos rfl] at H; obtain rfl := Option.some.inj H
     go_wp2
     go_ret
     exact ⟨zR, zD⟩
    ·replace c6 := Bool.eq_false_iff.mpr c6; subst c6; rw [if_neg (show ¬ (false = true) by decide)] at H; have HC7 := aM H; clear H
     go_upto_region 3 with (fail)
     go_cut [15] (fun v15 wc => ∃ (kq : Nat) (x15_6 : Bool), v15 = .bool x15_6 ∧ Aside0 (num_digit.j1 kq a0 a1 (wrap64 (a0)) x15_6 = some r) ∧ Aside0 (kq ≤ kj3) ∧ Drawn0 w wc)
     case first =>
      have H := HC7.out; clear HC7; by_cases c8 : a0 ≥ 65
      ·rw [if_pos c8] at H; have c8b0 := decide_eq_true c8; clear c8
       (first | rw [c8b0] | (simp only [i64_w, i32_w]; rw [c8b0]) | skip)
       have H' := aM H; clear H
       go_wp2
       go_meet
       case rel => exact ⟨_, (decide (a0 ≤ 70)), zR, H', ⟨by have := HJ3.out; first | omega | exact Nat.le_refl _⟩, zD⟩
      ·rw [if_neg c8] at H; have c8b0 := decide_eq_false c8; clear c8
       (first | rw [c8b0] | (simp only [i64_w, i32_w]; rw [c8b0]) | skip)
       have H' := aM H; clear H
       go_wp2
       go_meet
       case rel => exact ⟨_, (false), zR, H', ⟨by have := HJ3.out; first | omega | exact Nat.le_refl _⟩, zD⟩
     case rest =>
      clear HC7; (try clear c1); (try clear p2); (try clear c3); (try clear c5); (try clear c5b0); (try clear c6); (try clear p6); (try clear c8); (try clear c8b0); (try clear p2); obtain ⟨kq, x15_6, rfl, HA, HJ6, ⟨mc6, rfl⟩⟩ := hcut; cases kq with
      | zero => exact absurd HA.out (by simp [num_digit.j1])
      | succ kj6 =>
       have H := HA.out; clear HA; simp only [num_digit.j1] at H; by_cases c9 : x15_6 = true
       ·subst c9; rw [if_pos rfl] at H; have H' := aM H; clear H
        go_wp2
        go_meet
        case rel => exact ⟨_, (wrap64 ((wrap64 (a0)) + 32)), zR, H', ⟨by have := HJ3.out; have := HJ6.out; first | omega | exact Nat.le_refl _⟩, zD⟩
       ·replace c9 := Bool.eq_false_iff.mpr c9; subst c9; rw [if_neg (show ¬ (false = true) by decide)] at H; by_cases c10 : a0 ≥ 97
        ·rw [if_pos c10] at H; have c10b0 := decide_eq_true c10; clear c10; by_cases c11 : a0 ≤ 102
         ·rw [if_pos c11] at H; have c11b0 := decide_eq_true c11; clear c11; have H' := aM H; clear H
          go_wp2
          go_meet
          case rel => exact ⟨_, ((wrap64 (a0))), zR, H', ⟨by have := HJ3.out; have := HJ6.out; first | omega | exact Nat.le_refl _⟩, zD⟩
         ·rw [if_neg c11] at H; have c11b0 := decide_eq_false c11; clear c11; obtain rfl := Option.some.inj H
          go_wp2
          go_ret
          exact ⟨zR, zD⟩
        ·rw [if_neg c10] at H; have c10b0 := decide_eq_false c10; clear c10; obtain rfl := Option.some.inj H
         go_wp2
         go_ret
         exact ⟨zR, zD⟩
 case rest =>
  clear HC3; (try clear c1); (try clear p2); (try clear c3); (try clear c5); (try clear c5b0); (try clear c6); (try clear p6); (try clear c8); (try clear c8b0); (try clear c9); (try clear c10); (try clear c10b0); (try clear c11); (try clear c11b0); (try clear p2); (try clear p6); obtain ⟨kq, x5_2, rfl, HA, HJ2, ⟨mc2, rfl⟩⟩ := hcut; cases kq with
  | zero => exact absurd HA.out (by simp [num_digit.j2])
  | succ kj2 =>
   have H := HA.out; clear HA; simp only [num_digit.j2] at H; by_cases c12 : a1 = 16
   ·rw [if_pos c12] at H; obtain ⟨c12b0, c12b1⟩ := zd c12; clear c12; obtain rfl := Option.some.inj H
    go_wp2
    go_ret
    exact ⟨zR, zD⟩
   ·rw [if_neg c12] at H; obtain ⟨c12b0, c12b1⟩ := ze c12; obtain rfl := Option.some.inj H
    go_wp2
    go_ret
    exact ⟨zR, zD⟩

def num_Fits.f (a0 : Int) : Option (Bool) := if a0 ≥ 0 then (some (decide (a0 ≤ 9007199254740992))) else (some false)
set_option maxHeartbeats 8000000 in
set_option maxRecDepth 100000 in
theorem num_Fits.calls (a0 : Int) (r : Bool) (w : World) (h : num_Fits.f a0 = some r) :
  Calls Tryz.prog 113 #[.int .i64 a0] w fun e w' => e = .returned (.bool r) ∧ Drawn0 w w' := by
 have H : (if a0 ≥ 0 then (some (decide (a0 ≤ 9007199254740992))) else (some false)) = some r := h; clear h; by_cases c2 : a0 ≥ 0
 ·rw [if_pos c2] at H; have c2b0 := decide_eq_true c2; clear c2; obtain rfl := Option.some.inj H
  go_enter Tryz.func113, Tryz.ntmps113
  go_wp2
  go_ret
  exact ⟨zR, zD⟩
 ·rw [if_neg c2] at H; have c2b0 := decide_eq_false c2; clear c2; obtain rfl := Option.some.inj H
  go_enter Tryz.func113, Tryz.ntmps113
  go_wp2
  go_ret
  exact ⟨zR, zD⟩

end Go.Proofs.YthmallhjbhphgaaGreatDoor.P
