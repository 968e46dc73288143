/- Printed by a program of the session out of the translation: plain Lean functions, each with the contract that the Go function computes it. -/
import Derived.Test.YthmallhjbhphgaaGreatDoorHZm
import Derived.Test.YthmallhjbhphgaaGreatDoorHZ
import Derived.Test.YthmallhjbhphgaaGreatDoorPx0
import Derived.Test.YthmallhjbhphgaaGreatDoorPx5
import Derived.Test.YthmallhjbhphgaaGreatDoorPx6
namespace Go.Proofs.YthmallhjbhphgaaGreatDoor.P
open Go.RowKit Go.Proofs.YthmallhjbhphgaaGreatDoorW.PrintWords Go.Proofs.YthmallhjbhphgaaGreatDoorW.PrintLast Go.Proofs.YthmallhjbhphgaaGreatDoorW.PrintMore
attribute [local go_sem] max2_int min2_int max_two min_two max_three min_three max_four min_four   -- for this text's walks alone
set_option linter.unusedVariables false
set_option linter.unusedSimpArgs false

mutual
def lockageref16_Shared.j0 : Nat → Bool → ByteArray → ByteArray → Int → ByteArray → Int → List (S37) → ByteArray → Option (Bool)
 | 0, _, _, _, _, _, _, _, _ => none
 | k + 1, x13, x287000, x287001, x287002, x287003, x287004, x287005, x287006 => if x13 = true then (some false) else ((some (([(⟨#[97, 117, 116, 104, 111, 114, 105, 122, 97, 116, 105, 111, 110]⟩ : ByteArray), (⟨#[99, 111, 111, 107, 105, 101]⟩ : ByteArray), (⟨#[114, 97, 110, 103, 101]⟩ : ByteArray)] : List ByteArray) : List ByteArray)).bind fun y287 => (lockageref16_Shared.l0 k y287 (y287.length : Int) 0 x287000 x287001 x287002 x287003 x287004 x287005 x287006))
def lockageref16_Shared.l0 : Nat → List ByteArray → Int → Int → ByteArray → ByteArray → Int → ByteArray → Int → List (S37) → ByteArray → Option (Bool)
 | 0, _, _, _, _, _, _, _, _, _, _ => none
 | k + 1, x14, x15, x16, x287000, x287001, x287002, x287003, x287004, x287005, x287006 => if x16 < x15 then (if 0 ≤ x16 then (if x16 < (x14.length : Int) then ((lockageref05_Get.f k x287005 (rdOf ByteArray.empty x14 x16)).bind fun t292 => (if (t292.length : Int) > 0 then (some false) else (lockageref16_Shared.l0 k x14 x15 (wrap64 (x16 + 1)) x287000 x287001 x287002 x287003 x287004 x287005 x287006))) else (none)) else (none)) else ((lockageref16_directs.f k x287005 (⟨#[110, 111, 45, 115, 116, 111, 114, 101]⟩ : ByteArray)).bind fun t290 => (some (!t290)))
end
def lockageref16_Shared.f (k : Nat) (a0_0 : ByteArray) (a0_1 : ByteArray) (a0_2 : Int) (a0_3 : ByteArray) (a0_4 : Int) (l0_5 : List (S37)) (a0_6 : ByteArray) : Option (Bool) := if a0_0.toList = ([71, 69, 84] : List UInt8) then (lockageref16_Shared.j0 k (a0_6.toList != ([] : List UInt8)) a0_0 a0_1 a0_2 a0_3 a0_4 l0_5 a0_6) else (lockageref16_Shared.j0 k true a0_0 a0_1 a0_2 a0_3 a0_4 l0_5 a0_6)
theorem lockageref16_Shared.mono_l : ∀ k, (∀ y0 y1 y2 y3 y4 y5 y6 y7, LeO (lockageref16_Shared.j0 k y0 y1 y2 y3 y4 y5 y6 y7) (lockageref16_Shared.j0 (k + 1) y0 y1 y2 y3 y4 y5 y6 y7)) ∧ (∀ y0 y1 y2 y3 y4 y5 y6 y7 y8 y9, LeO (lockageref16_Shared.l0 k y0 y1 y2 y3 y4 y5 y6 y7 y8 y9) (lockageref16_Shared.l0 (k + 1) y0 y1 y2 y3 y4 y5 y6 y7 y8 y9))
 | 0 => ⟨fun _ _ _ _ _ _ _ _ r h => by simp [lockageref16_Shared.j0] at h, fun _ _ _ _ _ _ _ _ _ _ r h => by simp [lockageref16_Shared.l0] at h⟩
 | k + 1 => by
  obtain ⟨ih0, ih1⟩ := lockageref16_Shared.mono_l k
  refine ⟨?_, ?_⟩
  ·intro y0 y1 y2 y3 y4 y5 y6 y7
   unfold lockageref16_Shared.j0; have m0 := @lockageref05_Get.mono; have m1 := @lockageref16_directs.mono; exact zM
  ·intro y0 y1 y2 y3 y4 y5 y6 y7 y8 y9
   unfold lockageref16_Shared.l0; have m0 := @lockageref05_Get.mono; have m1 := @lockageref16_directs.mono; exact zM
theorem lockageref16_Shared.mono : ∀ a0 a1 a2 a3 a4 a5 a6 k, LeO (lockageref16_Shared.f k a0 a1 a2 a3 a4 a5 a6) (lockageref16_Shared.f (k + 1) a0 a1 a2 a3 a4 a5 a6) := by
 intro a0 a1 a2 a3 a4 a5 a6 k
 obtain ⟨ih0, ih1⟩ := lockageref16_Shared.mono_l k
 unfold lockageref16_Shared.f; have m0 := @lockageref05_Get.mono; have m1 := @lockageref16_directs.mono; exact zM
set_option maxHeartbeats 8000000 in
set_option maxRecDepth 100000 in
theorem lockageref16_Shared.calls (k : Nat) (a0_0 : ByteArray) (a0_1 : ByteArray) (a0_2 : Int) (a0_3 : ByteArray) (a0_4 : Int) (A0_5 : Option Addr) (c0_5 : Nat) (l0_5 : List (S37)) (a0_6 : ByteArray) (r : Bool) (w : World) (hr0_5 : Kd.C k37 w A0_5 l0_5.length l0_5) (hc0_5 : l0_5.length ≤ c0_5) (h : lockageref16_Shared.f k a0_0 a0_1 a0_2 a0_3 a0_4 l0_5 a0_6 = some r) :
  Calls Tryz.prog 16 #[.agg #[.string a0_0, .string a0_1, .int .i64 a0_2, .string a0_3, .int .i64 a0_4, .slice A0_5 l0_5.length c0_5, .string a0_6]] w fun e w' => e = .returned (.bool r) ∧ Below w.heap.size w w' := by
 have hu26 := Tryz.underlying26; have HR0_5 := aM hr0_5; have HC0_5 := aM hc0_5; clear hr0_5 hc0_5; have HB := aM (Below.refl w.heap.size w); have H := h; unfold lockageref16_Shared.f at H; clear h; have HC2 := aM H; clear H
 go_enter Tryz.func16, Tryz.ntmps16
 go_upto_region 1 with (first | ((with_reducible refine gate_dst (N := 1) rfl ?_); refine box_event ?hg (N := 1) ?hd (cs := #[.string a0_0, .string a0_1, .int .i64 a0_2, .string a0_3, .int .i64 a0_4, .slice A0_5 l0_5.length c0_5, .string a0_6]) (t := 26) ?hr ?_; (case hd => rfl); (case hg => rfl); (case hr => exact zG); intro gb286 hg w3 hbox hb; have BK286 := aM hbox; have GW286 := aM (by rw [hg]; exact (below_size zB) : w.heap.size ≤ gb286); replace HB := aM (below_step zB hb); have GE286 := GW286; clear hb hbox hg))
 (try simp only [Act.put, List.setIfInBounds_toArray, List.set_cons_zero, List.set_cons_succ])
 go_cut [13] (fun v13 wc => ∃ (kq : Nat) (x13_1 : Bool), v13 = .bool x13_1 ∧ Aside0 (lockageref16_Shared.j0 kq x13_1 a0_0 a0_1 a0_2 a0_3 a0_4 l0_5 a0_6 = some r) ∧ Aside0 (kq ≤ k) ∧ Aside0 (wc.heap[gb286]? = some (.cells #[.string a0_0, .string a0_1, .int .i64 a0_2, .string a0_3, .int .i64 a0_4, (.slice A0_5 l0_5.length c0_5), .string a0_6] 26 (0, 0))) ∧ Aside0 (Below w.heap.size w wc))
 case first =>
  have H := HC2.out; clear HC2; by_cases c4 : a0_0.toList = ([71, 69, 84] : List UInt8)
  ·rw [if_pos c4] at H; obtain ⟨c4b0, c4b1⟩ := zd c4; clear c4
   (first | rw [c4b0] | (simp only [i64_w, i32_w]; rw [c4b0]) | skip)
   have H' := aM H; clear H; obtain ⟨_, _, _, _, _, _, _, _, _, _, _, _, _, _⟩ := cz7 BK286.out
   go_wp2
   go_meet
   case rel => exact ⟨_, ((a0_6.toList != ([] : List UInt8))), (by first | rfl | (simp; done) | (simp [*]; done) | (cases a0_6.toList <;> rfl) | (simp; cases a0_6.toList <;> rfl)), H', ⟨by first | omega | exact Nat.le_refl _⟩, ⟨zK BK286.out⟩, ⟨zB⟩⟩
  ·rw [if_neg c4] at H; obtain ⟨c4b0, c4b1⟩ := ze c4
   (first | rw [c4b0] | (simp only [i64_w, i32_w]; rw [c4b0]) | skip)
   have H' := aM H; clear H; obtain ⟨_, _, _, _, _, _, _, _, _, _, _, _, _, _⟩ := cz7 BK286.out
   go_wp2
   go_meet
   case rel => exact ⟨_, (true), zR, H', ⟨by first | omega | exact Nat.le_refl _⟩, ⟨zK BK286.out⟩, ⟨zB⟩⟩
 case rest =>
  clear HC2; (try clear c1); (try clear p2); (try clear c4); (try clear c4b0); (try clear c4b1); obtain ⟨kq, x13_1, rfl, HA, HJ1, BK286, HB⟩ := hcut; cases kq with
  | zero => exact absurd HA.out (by simp [lockageref16_Shared.j0])
  | succ kj1 =>
   have H := HA.out; clear HA; simp only [lockageref16_Shared.j0] at H; by_cases c7 : x13_1 = true
   ·subst c7; rw [if_pos rfl] at H; obtain rfl := Option.some.inj H
    go_wp2
    go_ret
    exact ⟨zE, zB⟩
   ·replace c7 := Bool.eq_false_iff.mpr c7; subst c7; rw [if_neg (show ¬ (false = true) by decide)] at H; obtain ⟨y287, hy287, H⟩ := zb H; have Ny287 := aM hy287; clear hy287; have H' := aM H; clear H
    go_wp2_with (first | ((with_reducible refine gate_dst (N := 14) rfl ?_); refine Kd.R_lit Kd.string _ 9 ?hg (N := 14) ?hd (xs := ([(⟨#[97, 117, 116, 104, 111, 114, 105, 122, 97, 116, 105, 111, 110]⟩ : ByteArray), (⟨#[99, 111, 111, 107, 105, 101]⟩ : ByteArray), (⟨#[114, 97, 110, 103, 101]⟩ : ByteArray)] : List ByteArray)) (inner := [.string (⟨#[97, 117, 116, 104, 111, 114, 105, 122, 97, 116, 105, 111, 110]⟩ : ByteArray), .string (⟨#[99, 111, 111, 107, 105, 101]⟩ : ByteArray), .string (⟨#[114, 97, 110, 103, 101]⟩ : ByteArray)]) (ok := fun _ => True) (okp := fun _ => True) ?hr ?hp (fun _ hk => hk) trivial (Below.refl _ _) (Nat.le_refl _) (by simp) ?_; (case hd => rfl); (case hg => rfl); (case hr => exact zG); (case hp => exact (Reps.one (zY (⟨#[97, 117, 116, 104, 111, 114, 105, 122, 97, 116, 105, 111, 110]⟩ : ByteArray)) (Reps.one (zY (⟨#[99, 111, 111, 107, 105, 101]⟩ : ByteArray)) (Reps.one (zY (⟨#[114, 97, 110, 103, 101]⟩ : ByteArray)) (Reps.none _ _))))); intro v288 w8 ho9 hb hg_ hnew_; clear hg_ hnew_; (first | rw [← Ny287.out] at ho9 | (simp only [Int.reduceToNat] at ho9; rw [← Ny287.out] at ho9)); have HO289 := aM (Kd.R_lower ho9 (below_size zB)); replace BK286 := aM (zX BK286.out hb); replace HB := aM (below_step zB hb); clear hb ho9; obtain ⟨Ao10, co10, eo10⟩ := Kd.R_slice HO289.out; subst eo10))
    go_loopg [16] kj1 (fun kq v16 w' => ∃ (x16_2 : Int), v16 = .int .i64 x16_2 ∧ Aside0 (lockageref16_Shared.l0 kq y287 (y287.length : Int) x16_2 a0_0 a0_1 a0_2 a0_3 a0_4 l0_5 a0_6 = some r) ∧ Aside0 (kq ≤ kj1) ∧ Aside0 (Kd.R Kd.string 9 w' w.heap.size (fun _ => True) (.slice Ao10 y287.length co10) y287) ∧ Aside0 (w'.heap[gb286]? = some (.cells #[.string a0_0, .string a0_1, .int .i64 a0_2, .string a0_3, .int .i64 a0_4, (.slice A0_5 l0_5.length c0_5), .string a0_6] 26 (0, 0))) ∧ Aside0 (Below w.heap.size w w'))
    case atStart => exact ⟨(0), zR, H', ⟨Nat.le_refl _⟩, ⟨zO HO289.out⟩, ⟨zK BK286.out⟩, ⟨zB⟩⟩
    case round =>
     clear H'; (try clear c1); (try clear p2); (try clear c4); (try clear c4b0); (try clear c4b1); (try clear c7); (try clear p2); obtain ⟨x16_2, rfl, HA, HK2, HO_14, BK286, HB⟩ := hrel; cases gk with
     | zero => exact absurd HA.out (by simp [lockageref16_Shared.l0])
     | succ k2 =>
      have H := HA.out; clear HA; simp only [lockageref16_Shared.l0] at H; by_cases c11 : x16_2 < (y287.length : Int)
      ·rw [if_pos c11] at H; have c11b0 := decide_eq_true c11; clear c11; by_cases c12 : 0 ≤ x16_2
       ·rw [if_pos c12] at H; have c12b0 := decide_eq_true c12; clear c12; by_cases c13 : x16_2 < (y287.length : Int)
        ·rw [if_pos c13] at H; have c13b0 := decide_eq_true c13; clear c13; replace H := Option.bind_eq_some_iff.mp H; obtain ⟨t292, A140, H⟩ := H; replace H : (if (t292.length : Int) > 0 then (some false) else (lockageref16_Shared.l0 k2 y287 (y287.length : Int) (wrap64 (x16_2 + 1)) a0_0 a0_1 a0_2 a0_3 a0_4 l0_5 a0_6)) = some r := H; have A14 := aM A140; clear A140; by_cases c15 : (t292.length : Int) > 0
         ·rw [if_pos c15] at H; have c15b0 := decide_eq_true c15; have c15b1 : decide (0 < t292.length) = true := decide_eq_true (by omega); clear c15; obtain rfl := Option.some.inj H; have p291 : 0 ≤ (x16_2 : Int) := of_decide_eq_true zA; have q291 : x16_2 < (y287.length : Int) := of_decide_eq_true zA; obtain ⟨ad291, e291, hx291_0⟩ := Kd.at_string (Kd.R_reads' HO_14.out).2.2 x16_2 p291 q291; cases e291; replace p291 := eq_true p291; replace q291 := eq_true q291; obtain ⟨_, _, _, _, _, _, _, _, _, _, _, _, _, _⟩ := cz7 BK286.out
          go_wp2_with (first | ((with_reducible refine gate_callee (f := 21) rfl ?_); refine goesL_ (some 24) rfl rfl Tryz.func21 (by kernel_rfl) rfl #[.slice A0_5 l0_5.length c0_5, .string (rdOf ByteArray.empty y287 x16_2)] rfl zL ?_; (with_reducible refine (lockageref05_Get.calls k2 _ _ l0_5 (rdOf ByteArray.empty y287 x16_2) t292 _ ?side1 ?side2 A14.out).mono ?_); (case side1 => exact zC (Kd.C_below HR0_5.out HB.out)); (case side2 => exact HC0_5.out); rintro e w17 ⟨v293, rfl, ho0, hb⟩; refine ⟨_, rfl, ?_⟩; have HO294 := aM (Kd.R_lower (Kd.R_new' ho0 (Kd.R_lt (zO HO_14.out))) (below_size zB)); replace HO_14 := aM (Kd.R_elder' (zO HO_14.out) (Kd.R_base ho0) hb); replace BK286 := aM (zX BK286.out hb); replace HB := aM (below_step zB hb); clear hb ho0; obtain ⟨Ao18, co18, eo18⟩ := Kd.R_slice HO294.out; subst eo18))
          go_ret
          exact ⟨zE, zB⟩
         ·rw [if_neg c15] at H; have c15b0 := decide_eq_false c15; have c15b1 : decide (0 < t292.length) = false := decide_eq_false (by omega); clear c15; have H' := aM H; clear H; have p291 : 0 ≤ (x16_2 : Int) := of_decide_eq_true zA; have q291 : x16_2 < (y287.length : Int) := of_decide_eq_true zA; obtain ⟨ad291, e291, hx291_0⟩ := Kd.at_string (Kd.R_reads' HO_14.out).2.2 x16_2 p291 q291; cases e291; replace p291 := eq_true p291; replace q291 := eq_true q291; obtain ⟨_, _, _, _, _, _, _, _, _, _, _, _, _, _⟩ := cz7 BK286.out
          go_wp2_with (first | ((with_reducible refine gate_callee (f := 21) rfl ?_); refine goesL_ (some 24) rfl rfl Tryz.func21 (by kernel_rfl) rfl #[.slice A0_5 l0_5.length c0_5, .string (rdOf ByteArray.empty y287 x16_2)] rfl zL ?_; (with_reducible refine (lockageref05_Get.calls k2 _ _ l0_5 (rdOf ByteArray.empty y287 x16_2) t292 _ ?side1 ?side2 A14.out).mono ?_); (case side1 => exact zC (Kd.C_below HR0_5.out HB.out)); (case side2 => exact HC0_5.out); rintro e w20 ⟨v293, rfl, ho0, hb⟩; refine ⟨_, rfl, ?_⟩; have HO294 := aM (Kd.R_lower (Kd.R_new' ho0 (Kd.R_lt (zO HO_14.out))) (below_size zB)); replace HO_14 := aM (Kd.R_elder' (zO HO_14.out) (Kd.R_base ho0) hb); replace BK286 := aM (zX BK286.out hb); replace HB := aM (below_step zB hb); clear hb ho0; obtain ⟨Ao21, co21, eo21⟩ := Kd.R_slice HO294.out; subst eo21))
          go_roundg k2
          case measure => have := HJ1.out; have := HK2.out; omega
          case rel => exact ⟨(wrap64 (x16_2 + 1)), zR, H', ⟨by have := HJ1.out; have := HK2.out; omega⟩, ⟨by (with_reducible repeat (first | apply rA | apply rN | apply rD)); exact Kd.R_mono HO_14.out (fun _ hk => trivial)⟩, ⟨zK BK286.out⟩, ⟨zB⟩⟩
        ·exact zf c13 H
       ·exact zf c12 H
      ·rw [if_neg c11] at H; have c11b0 := decide_eq_false c11; clear c11; replace H := Option.bind_eq_some_iff.mp H; obtain ⟨t290, A220, H⟩ := H; replace H : (some (!t290)) = some r := H; have A22 := aM A220; clear A220; obtain rfl := Option.some.inj H; obtain ⟨_, _, _, _, _, _, _, _, _, _, _, _, _, _⟩ := cz7 BK286.out
       go_wp2_with (first | ((with_reducible refine gate_callee (f := 35) rfl ?_); refine goesL_ (some 31) rfl rfl Tryz.func35 (by kernel_rfl) rfl #[.slice A0_5 l0_5.length c0_5, .string (⟨#[110, 111, 45, 115, 116, 111, 114, 101]⟩ : ByteArray)] rfl zL ?_; (with_reducible refine (lockageref16_directs.calls k2 _ _ l0_5 (⟨#[110, 111, 45, 115, 116, 111, 114, 101]⟩ : ByteArray) t290 _ ?side1 ?side2 A22.out).mono ?_); (case side1 => exact zC (Kd.C_below HR0_5.out HB.out)); (case side2 => exact HC0_5.out); rintro e w24 ⟨rfl, hb⟩; refine ⟨_, rfl, ?_⟩; replace HO_14 := aM (Kd.R_below (zO HO_14.out) hb); replace BK286 := aM (zX BK286.out hb); replace HB := aM (below_step zB hb); clear hb))
       go_ret
       exact ⟨zE, zB⟩

mutual
def lockageref03_value.j2 : Nat → Int → Int → Option (Int)
 | 0, _, _ => none
 | k + 1, x1, x5 => if x5 ≥ x1 then (some (-1)) else (some x5)
def lockageref03_value.j0 : Nat → Int → Int → Int → Bool → Option (Int)
 | 0, _, _, _, _ => none
 | k + 1, x0, x1, x5, x6 => if x6 = true then (lockageref03_value.j2 k x1 ((x0 - 48) % 256)) else (if x0 ≥ 97 then (lockageref03_value.j1 k x0 x1 x5 (decide (x0 ≤ 102))) else (lockageref03_value.j1 k x0 x1 x5 false))
def lockageref03_value.j1 : Nat → Int → Int → Int → Bool → Option (Int)
 | 0, _, _, _, _ => none
 | k + 1, x0, x1, x5, x16 => if x16 = true then (lockageref03_value.j2 k x1 (((x0 - 97) % 256) + 10)) else (if x0 ≥ 65 then (if x0 ≤ 70 then (lockageref03_value.j2 k x1 (((x0 - 65) % 256) + 10)) else (lockageref03_value.j2 k x1 x5)) else (lockageref03_value.j2 k x1 x5))
end
def lockageref03_value.f (k : Nat) (a0 : Int) (a1 : Int) : Option (Int) := if a0 ≥ 48 then (lockageref03_value.j0 k a0 a1 (-1) (decide (a0 ≤ 57))) else (lockageref03_value.j0 k a0 a1 (-1) false)
theorem lockageref03_value.mono_l : ∀ k, (∀ y0 y1, LeO (lockageref03_value.j2 k y0 y1) (lockageref03_value.j2 (k + 1) y0 y1)) ∧ (∀ y0 y1 y2 y3, LeO (lockageref03_value.j0 k y0 y1 y2 y3) (lockageref03_value.j0 (k + 1) y0 y1 y2 y3)) ∧ (∀ y0 y1 y2 y3, LeO (lockageref03_value.j1 k y0 y1 y2 y3) (lockageref03_value.j1 (k + 1) y0 y1 y2 y3))
 | 0 => ⟨fun _ _ r h => by simp [lockageref03_value.j2] at h, fun _ _ _ _ r h => by simp [lockageref03_value.j0] at h, fun _ _ _ _ r h => by simp [lockageref03_value.j1] at h⟩
 | k + 1 => by
  obtain ⟨ih0, ih1, ih2⟩ := lockageref03_value.mono_l k
  refine ⟨?_, ?_, ?_⟩
  ·intro y0 y1
   unfold lockageref03_value.j2; exact zM
  ·intro y0 y1 y2 y3
   unfold lockageref03_value.j0; exact zM
  ·intro y0 y1 y2 y3
   unfold lockageref03_value.j1; exact zM
theorem lockageref03_value.mono : ∀ a0 a1 k, LeO (lockageref03_value.f k a0 a1) (lockageref03_value.f (k + 1) a0 a1) := by
 intro a0 a1 k
 obtain ⟨ih0, ih1, ih2⟩ := lockageref03_value.mono_l k
 unfold lockageref03_value.f; exact zM
set_option maxHeartbeats 8000000 in
set_option maxRecDepth 100000 in
theorem lockageref03_value.calls (k : Nat) (a0 : Int) (a1 : Int) (r : Int) (w : World) (h : lockageref03_value.f k a0 a1 = some r) :
  Calls Tryz.prog 101 #[.int .u8 a0, .int .i64 a1] w fun e w' => e = .returned (.int .i64 r) ∧ Drawn0 w w' := by
 have H : (if a0 ≥ 48 then (lockageref03_value.j0 k a0 a1 (-1) (decide (a0 ≤ 57))) else (lockageref03_value.j0 k a0 a1 (-1) false)) = some r := h; clear h; have HC3 := aM H; clear H
 go_enter Tryz.func101, Tryz.ntmps101
 go_upto_block 0 with (fail)
 go_cut [5] (fun v5 wc => ∃ (kq : Nat) (x5_2 : Int), v5 = .int .i64 x5_2 ∧ Aside0 (lockageref03_value.j2 kq a1 x5_2 = some r) ∧ Aside0 (kq ≤ k) ∧ Drawn0 w wc)
 case first =>
  have H := HC3.out; clear HC3; have HC4 := aM H; clear H
  go_upto_region 2 with (fail)
  go_cut [6] (fun v6 wc => ∃ (kq : Nat) (x6_3 : Bool), v6 = .bool x6_3 ∧ Aside0 (lockageref03_value.j0 kq a0 a1 (-1) x6_3 = some r) ∧ Aside0 (kq ≤ k) ∧ Drawn0 w wc)
  case first =>
   have H := HC4.out; clear HC4; by_cases c5 : a0 ≥ 48
   ·rw [if_pos c5] at H; have c5b0 := decide_eq_true c5; clear c5
    (first | rw [c5b0] | (simp only [i64_w, i32_w]; rw [c5b0]) | skip)
    have H' := aM H; clear H
    go_wp2
    go_meet
    case rel => exact ⟨_, (decide (a0 ≤ 57)), zR, H', ⟨by first | omega | exact Nat.le_refl _⟩, zD⟩
   ·rw [if_neg c5] at H; have c5b0 := decide_eq_false c5; clear c5
    (first | rw [c5b0] | (simp only [i64_w, i32_w]; rw [c5b0]) | skip)
    have H' := aM H; clear H
    go_wp2
    go_meet
    case rel => exact ⟨_, (false), zR, H', ⟨by first | omega | exact Nat.le_refl _⟩, zD⟩
  case rest =>
   clear HC4; (try clear c1); (try clear p2); (try clear c5); (try clear c5b0); obtain ⟨kq, x6_3, rfl, HA, HJ3, ⟨mc3, rfl⟩⟩ := hcut; cases kq with
   | zero => exact absurd HA.out (by simp [lockageref03_value.j0])
   | succ kj3 =>
    have H := HA.out; clear HA; simp only [lockageref03_value.j0] at H; by_cases c6 : x6_3 = true
    ·subst c6; rw [if_pos rfl] at H; have H' := aM H; clear H
     go_wp2
     go_meet
     case rel => exact ⟨_, ((a0 - 48) % 256), zR, H', ⟨by have := HJ3.out; first | omega | exact Nat.le_refl _⟩, zD⟩
    ·replace c6 := Bool.eq_false_iff.mpr c6; subst c6; rw [if_neg (show ¬ (false = true) by decide)] at H; have HC7 := aM H; clear H
     go_upto_region 4 with (fail)
     go_cut [16] (fun v16 wc => ∃ (kq : Nat) (x16_6 : Bool), v16 = .bool x16_6 ∧ Aside0 (lockageref03_value.j1 kq a0 a1 (-1) x16_6 = some r) ∧ Aside0 (kq ≤ kj3) ∧ Drawn0 w wc)
     case first =>
      have H := HC7.out; clear HC7; by_cases c8 : a0 ≥ 97
      ·rw [if_pos c8] at H; have c8b0 := decide_eq_true c8; clear c8
       (first | rw [c8b0] | (simp only [i64_w, i32_w]; rw [c8b0]) | skip)
       have H' := aM H; clear H
       go_wp2
       go_meet
       case rel => exact ⟨_, (decide (a0 ≤ 102)), zR, H', ⟨by have := HJ3.out; first | omega | exact Nat.le_refl _⟩, zD⟩
      ·rw [if_neg c8] at H; have c8b0 := decide_eq_false c8; clear c8
       (first | rw [c8b0] | (simp only [i64_w, i32_w]; rw [c8b0]) | skip)
       have H' := aM H; clear H
       go_wp2
       go_meet
       case rel => exact ⟨_, (false), zR, H', ⟨by have := HJ3.out; first | omega | exact Nat.le_refl _⟩, zD⟩
     case rest =>
      clear HC7; (try clear c1); (try clear p2); (try clear c3); (try clear c5); (try clear c5b0); (try clear c6); (try clear c8); (try clear c8b0); (try clear p2); obtain ⟨kq, x16_6, rfl, HA, HJ6, ⟨mc6, rfl⟩⟩ := hcut; cases kq with
      | zero => exact absurd HA.out (by simp [lockageref03_value.j1])
      | succ kj6 =>
       have H := HA.out; clear HA; simp only [lockageref03_value.j1] at H; by_cases c9 : x16_6 = true
       ·subst c9; rw [if_pos rfl] at H; have H' := aM H; clear H
        go_wp2
        go_meet
        case rel => exact ⟨_, (((a0 - 97) % 256) + 10), zR, H', ⟨by have := HJ3.out; have := HJ6.out; first | omega | exact Nat.le_refl _⟩, zD⟩
       ·replace c9 := Bool.eq_false_iff.mpr c9; subst c9; rw [if_neg (show ¬ (false = true) by decide)] at H; by_cases c10 : a0 ≥ 65
        ·rw [if_pos c10] at H; have c10b0 := decide_eq_true c10; clear c10; by_cases c11 : a0 ≤ 70
         ·rw [if_pos c11] at H; have c11b0 := decide_eq_true c11; clear c11; have H' := aM H; clear H
          go_wp2
          go_meet
          case rel => exact ⟨_, (((a0 - 65) % 256) + 10), zR, H', ⟨by have := HJ3.out; have := HJ6.out; first | omega | exact Nat.le_refl _⟩, zD⟩
         ·rw [if_neg c11] at H; have c11b0 := decide_eq_false c11; clear c11; have H' := aM H; clear H
          go_wp2
          go_meet
          case rel => exact ⟨_, ((-1)), zR, H', ⟨by have := HJ3.out; have := HJ6.out; first | omega | exact Nat.le_refl _⟩, zD⟩
        ·rw [if_neg c10] at H; have c10b0 := decide_eq_false c10; clear c10; have H' := aM H; clear H
         go_wp2
         go_meet
         case rel => exact ⟨_, ((-1)), zR, H', ⟨by have := HJ3.out; have := HJ6.out; first | omega | exact Nat.le_refl _⟩, zD⟩
 case rest =>
  clear HC3; (try clear c1); (try clear p2); (try clear c3); (try clear c5); (try clear c5b0); (try clear c6); (try clear c8); (try clear c8b0); (try clear c9); (try clear c10); (try clear c10b0); (try clear c11); (try clear c11b0); (try clear p2); obtain ⟨kq, x5_2, rfl, HA, HJ2, ⟨mc2, rfl⟩⟩ := hcut; cases kq with
  | zero => exact absurd HA.out (by simp [lockageref03_value.j2])
  | succ kj2 =>
   have H := HA.out; clear HA; simp only [lockageref03_value.j2] at H; by_cases c12 : x5_2 ≥ a1
   ·rw [if_pos c12] at H; have c12b0 := decide_eq_true c12; clear c12; obtain rfl := Option.some.inj H
    go_wp2
    go_ret
    exact ⟨zR, zD⟩
   ·rw [if_neg c12] at H; have c12b0 := decide_eq_false c12; clear c12; obtain rfl := Option.some.inj H
    go_wp2
    go_ret
    exact ⟨zR, zD⟩

def lockageref03_Fits.f (a0 : Int) : Option (Bool) := if a0 ≥ 0 then (some (decide (a0 ≤ 9007199254740992))) else (some false)
set_option maxHeartbeats 8000000 in
set_option maxRecDepth 100000 in
theorem lockageref03_Fits.calls (a0 : Int) (r : Bool) (w : World) (h : lockageref03_Fits.f a0 = some r) :
  Calls Tryz.prog 117 #[.int .i64 a0] w fun e w' => e = .returned (.bool r) ∧ Drawn0 w w' := by
 have H : (if a0 ≥ 0 then (some (decide (a0 ≤ 9007199254740992))) else (some false)) = some r := h; clear h; by_cases c2 : a0 ≥ 0
 ·rw [if_pos c2] at H; have c2b0 := decide_eq_true c2; clear c2; obtain rfl := Option.some.inj H
  go_enter Tryz.func117, Tryz.ntmps117
  go_wp2
  go_ret
  exact ⟨zR, zD⟩
 ·rw [if_neg c2] at H; have c2b0 := decide_eq_false c2; clear c2; obtain rfl := Option.some.inj H
  go_enter Tryz.func117, Tryz.ntmps117
  go_wp2
  go_ret
  exact ⟨zR, zD⟩

def lockageref03_Mul.j0 : Nat → Int → Int → Bool → Option (Int × Int)
 | 0, _, _, _ => none
 | k + 1, x0, x1, x13 => if x13 = true then (some (0, 1)) else (if x1 > 0 then (if x1 = 0 then (none) else (if x0 > (wrap64 (Int.tdiv 9007199254740992 x1)) then (some (0, 3)) else (some (wrap64 (x0 * x1), 0)))) else (some (wrap64 (x0 * x1), 0)))
def lockageref03_Mul.f (k : Nat) (a0 : Int) (a1 : Int) : Option (Int × Int) := (lockageref03_Fits.f a0).bind fun t295 => (if t295 = true then ((lockageref03_Fits.f a1).bind fun t296 => (lockageref03_Mul.j0 k a0 a1 (!t296))) else (lockageref03_Mul.j0 k a0 a1 true))
theorem lockageref03_Mul.mono_l : ∀ k, (∀ y0 y1 y2, LeO (lockageref03_Mul.j0 k y0 y1 y2) (lockageref03_Mul.j0 (k + 1) y0 y1 y2))
 | 0 => fun _ _ _ r h => by simp [lockageref03_Mul.j0] at h
 | k + 1 => by
  have ih0 := lockageref03_Mul.mono_l k
  ·intro y0 y1 y2
   unfold lockageref03_Mul.j0; exact zM
theorem lockageref03_Mul.mono : ∀ a0 a1 k, LeO (lockageref03_Mul.f k a0 a1) (lockageref03_Mul.f (k + 1) a0 a1) := by
 intro a0 a1 k
 have ih0 := lockageref03_Mul.mono_l k
 unfold lockageref03_Mul.f; exact zM
set_option maxHeartbeats 8000000 in
set_option maxRecDepth 100000 in
theorem lockageref03_Mul.calls (k : Nat) (a0 : Int) (a1 : Int) (r1 : Int) (r2 : Int) (w : World) (h : lockageref03_Mul.f k a0 a1 = some (r1, r2)) :
  Calls Tryz.prog 102 #[.int .i64 a0, .int .i64 a1] w fun e w' => e = .returned (.tuple #[.int .i64 r1, .int .i64 r2]) ∧ Drawn0 w w' := by
 have H : ((lockageref03_Fits.f a0).bind fun t295 => (if t295 = true then ((lockageref03_Fits.f a1).bind fun t296 => (lockageref03_Mul.j0 k a0 a1 (!t296))) else (lockageref03_Mul.j0 k a0 a1 true))) = some (r1, r2) := h; clear h; have HC3 := aM H; clear H
 go_enter Tryz.func102, Tryz.ntmps102
 go_upto_region 1 with (fail)
 go_cut [13] (fun v13 wc => ∃ (kq : Nat) (x13_2 : Bool), v13 = .bool x13_2 ∧ Aside0 (lockageref03_Mul.j0 kq a0 a1 x13_2 = some (r1, r2)) ∧ Aside0 (kq ≤ k) ∧ Drawn0 w wc)
 case first =>
  have H := HC3.out; clear HC3; replace H := Option.bind_eq_some_iff.mp H; obtain ⟨t295, A40, H⟩ := H; replace H : (if t295 = true then ((lockageref03_Fits.f a1).bind fun t296 => (lockageref03_Mul.j0 k a0 a1 (!t296))) else (lockageref03_Mul.j0 k a0 a1 true)) = some (r1, r2) := H; have A4 := aM A40; clear A40; by_cases c5 : t295 = true
  ·subst c5; rw [if_pos rfl] at H; replace H := Option.bind_eq_some_iff.mp H; obtain ⟨t296, A60, H⟩ := H; replace H : (lockageref03_Mul.j0 k a0 a1 (!t296)) = some (r1, r2) := H; have A6 := aM A60; clear A60; have H' := aM H; clear H
   go_wp2_with (first | ((with_reducible refine gate_callee (f := 117) rfl ?_); refine goesL_ (some 7) rfl rfl Tryz.func117 (by kernel_rfl) rfl #[.int .i64 a0] rfl zL ?_; (with_reducible refine (lockageref03_Fits.calls a0 true _ A4.out).mono ?_); rintro e w' ⟨rfl, ⟨nd, rfl⟩⟩; refine ⟨_, rfl, ?_⟩) | (go_at_call 117; (with_reducible refine (lockageref03_Fits.calls a1 t296 _ A6.out).mono ?_); rintro e w' ⟨rfl, ⟨nd, rfl⟩⟩))
   go_meet
   case rel => exact ⟨_, (!t296), zR, H', ⟨by first | omega | exact Nat.le_refl _⟩, zD⟩
  ·replace c5 := Bool.eq_false_iff.mpr c5; subst c5; rw [if_neg (show ¬ (false = true) by decide)] at H; have H' := aM H; clear H
   go_wp2_with (first | ((with_reducible refine gate_callee (f := 117) rfl ?_); refine goesL_ (some 7) rfl rfl Tryz.func117 (by kernel_rfl) rfl #[.int .i64 a0] rfl zL ?_; (with_reducible refine (lockageref03_Fits.calls a0 false _ A4.out).mono ?_); rintro e w' ⟨rfl, ⟨nd, rfl⟩⟩; refine ⟨_, rfl, ?_⟩))
   go_meet
   case rel => exact ⟨_, (true), zR, H', ⟨by first | omega | exact Nat.le_refl _⟩, zD⟩
 case rest =>
  clear HC3; (try clear c1); (try clear p2); (try clear c5); obtain ⟨kq, x13_2, rfl, HA, HJ2, ⟨mc2, rfl⟩⟩ := hcut; cases kq with
  | zero => exact absurd HA.out (by simp [lockageref03_Mul.j0])
  | succ kj2 =>
   have H := HA.out; clear HA; simp only [lockageref03_Mul.j0] at H; by_cases c7 : x13_2 = true
   ·subst c7; rw [if_pos rfl] at H; simp only [Option.some.injEq, Prod.mk.injEq] at H; obtain ⟨rfl, rfl⟩ := H
    go_wp2
    go_ret2
    exact ⟨zR, zD⟩
   ·replace c7 := Bool.eq_false_iff.mpr c7; subst c7; rw [if_neg (show ¬ (false = true) by decide)] at H; by_cases c8 : a1 > 0
    ·rw [if_pos c8] at H; have c8b0 := decide_eq_true c8; clear c8; by_cases c9 : a1 = 0
     ·rw [if_pos c9] at H; exact absurd H (by simp)
     ·rw [if_neg c9] at H; obtain ⟨c9b0, c9b1⟩ := ze c9; by_cases c10 : a0 > (wrap64 (Int.tdiv 9007199254740992 a1))
      ·rw [if_pos c10] at H; have c10b0 := decide_eq_true c10; clear c10; simp only [Option.some.injEq, Prod.mk.injEq] at H; obtain ⟨rfl, rfl⟩ := H
       go_wp2
       go_ret2
       exact ⟨zR, zD⟩
      ·rw [if_neg c10] at H; have c10b0 := decide_eq_false c10; clear c10; simp only [Option.some.injEq, Prod.mk.injEq] at H; obtain ⟨rfl, rfl⟩ := H
       go_wp2
       go_ret2
       exact ⟨zR, zD⟩
    ·rw [if_neg c8] at H; have c8b0 := decide_eq_false c8; clear c8; simp only [Option.some.injEq, Prod.mk.injEq] at H; obtain ⟨rfl, rfl⟩ := H
     go_wp2
     go_ret2
     exact ⟨zR, zD⟩

end Go.Proofs.YthmallhjbhphgaaGreatDoor.P
