/- Printed by a program of the session out of the translation: plain Lean functions, each with the contract that the Go function computes it. -/
import Derived.Test.YthmallhjbhphgaaGreatDoorHZm
import Derived.Test.YthmallhjbhphgaaGreatDoorHZ
import Derived.Laws.Cover1
import Derived.Test.YthmallhjbhphgaaGreatDoorPx0
import Derived.Test.YthmallhjbhphgaaGreatDoorPx5
import Derived.Test.YthmallhjbhphgaaGreatDoorPx6
namespace Go.Proofs.YthmallhjbhphgaaGreatDoor.P
open Go.RowKit Go.Proofs.YthmallhjbhphgaaGreatDoorW.PrintWords Go.Proofs.YthmallhjbhphgaaGreatDoorW.PrintLast Go.Proofs.YthmallhjbhphgaaGreatDoorW.PrintMore
attribute [local go_sem] max2_int min2_int max_two min_two max_three min_three max_four min_four   -- for this text's walks alone
set_option linter.unusedVariables false
set_option linter.unusedSimpArgs false

mutual
def lockageref16_add.l0 : Nat → List ByteArray → ByteArray → List ByteArray → Bool → Int → Option (List ByteArray)
 | 0, _, _, _, _, _ => none
 | k + 1, x0, x1, x5, x6, x7 => if x7 < (x0.length : Int) then (if x6 = true then (lockageref16_add.j1 k x0 x1 x5 x6 x7 false) else (if 0 ≤ x7 then (lockageref16_add.j1 k x0 x1 x5 x6 x7 (!(Op.bytesLess ((rdOf ByteArray.empty x0 x7).toList) x1.toList))) else (none))) else (if x6 = true then (some x5) else (if x5.length < 8796093022208 then (some (x5 ++ [x1])) else (none)))
def lockageref16_add.j1 : Nat → List ByteArray → ByteArray → List ByteArray → Bool → Int → Bool → Option (List ByteArray)
 | 0, _, _, _, _, _, _ => none
 | k + 1, x0, x1, x5, x6, x7, x23 => if x23 = true then (if x5.length < 8796093022208 then (lockageref16_add.j2 k x0 x1 (x5 ++ [x1]) true x7) else (none)) else (lockageref16_add.j2 k x0 x1 x5 x6 x7)
def lockageref16_add.j2 : Nat → List ByteArray → ByteArray → List ByteArray → Bool → Int → Option (List ByteArray)
 | 0, _, _, _, _, _ => none
 | k + 1, x0, x1, x5, x6, x7 => if 0 ≤ x7 then (if x7 < (x0.length : Int) then (if (rdOf ByteArray.empty x0 x7).toList = x1.toList then (lockageref16_add.l0 k x0 x1 x5 x6 (wrap64 (x7 + 1))) else (if x5.length < 8796093022208 then (lockageref16_add.l0 k x0 x1 (x5 ++ [rdOf ByteArray.empty x0 x7]) x6 (wrap64 (x7 + 1))) else (none))) else (none)) else (none)
end
def lockageref16_add.f (k : Nat) (l0 : List ByteArray) (a1 : ByteArray) : Option (List ByteArray) := lockageref16_add.l0 k l0 a1 ([] : List ByteArray) false 0
theorem lockageref16_add.mono_l : ∀ k, (∀ y0 y1 y2 y3 y4, LeO (lockageref16_add.l0 k y0 y1 y2 y3 y4) (lockageref16_add.l0 (k + 1) y0 y1 y2 y3 y4)) ∧ (∀ y0 y1 y2 y3 y4 y5, LeO (lockageref16_add.j1 k y0 y1 y2 y3 y4 y5) (lockageref16_add.j1 (k + 1) y0 y1 y2 y3 y4 y5)) ∧ (∀ y0 y1 y2 y3 y4, LeO (lockageref16_add.j2 k y0 y1 y2 y3 y4) (lockageref16_add.j2 (k + 1) y0 y1 y2 y3 y4))
 | 0 => ⟨fun _ _ _ _ _ r h => by simp [lockageref16_add.l0] at h, fun _ _ _ _ _ _ r h => by simp [lockageref16_add.j1] at h, fun _ _ _ _ _ r h => by simp [lockageref16_add.j2] at h⟩
 | k + 1 => by
  obtain ⟨ih0, ih1, ih2⟩ := lockageref16_add.mono_l k
  refine ⟨?_, ?_, ?_⟩
  ·intro y0 y1 y2 y3 y4
   unfold lockageref16_add.l0; exact zM
  ·intro y0 y1 y2 y3 y4 y5
   unfold lockageref16_add.j1; exact zM
  ·intro y0 y1 y2 y3 y4
   unfold lockageref16_add.j2; exact zM
theorem lockageref16_add.mono : ∀ a0 a1 k, LeO (lockageref16_add.f k a0 a1) (lockageref16_add.f (k + 1) a0 a1) := by
 intro a0 a1 k
 obtain ⟨ih0, ih1, ih2⟩ := lockageref16_add.mono_l k
 unfold lockageref16_add.f; exact zM
set_option maxHeartbeats 8000000 in
set_option maxRecDepth 100000 in
theorem lockageref16_add.calls (k : Nat) (A0 : Option Addr) (c0 : Nat) (l0 : List ByteArray) (a1 : ByteArray) (r : List ByteArray) (w : World) (hr0 : Kd.C Kd.string w A0 l0.length l0) (hc0 : l0.length ≤ c0) (h : lockageref16_add.f k l0 a1 = some r) :
  Calls Tryz.prog 46 #[.slice A0 l0.length c0, .string a1] w fun e w' => ∃ v0_ : Value, e = .returned (v0_) ∧ Kd.R Kd.string 9 w' w.heap.size (fun _ => True) v0_ r ∧ Below w.heap.size w w' := by
 have HR0 := aM hr0; have HC0 := aM hc0; clear hr0 hc0; have HB := aM (Below.refl w.heap.size w); have H : (lockageref16_add.l0 k l0 a1 ([] : List ByteArray) false 0) = some r := h; clear h; have H' := aM H; clear H
 go_enter Tryz.func46, Tryz.ntmps46
 go_wp2
 go_loopg [5, 6, 7] k (fun kq v5 v6 v7 w' => ∃ (x5_1 : List ByteArray) (x6_1 : Bool) (x7_1 : Int), v6 = .bool x6_1 ∧ v7 = .int .i64 x7_1 ∧ Aside0 (lockageref16_add.l0 kq l0 a1 x5_1 x6_1 x7_1 = some r) ∧ Aside0 (kq ≤ k) ∧ Aside0 (Kd.R Kd.string 9 w' w.heap.size (fun _ => True) v5 x5_1) ∧ Aside0 (Below w.heap.size w w'))
 case atStart => exact ⟨(([] : List ByteArray)), (false), (0), zR, zR, H', ⟨Nat.le_refl _⟩, ⟨by first | exact Kd.R_nil _ _ _ _ _ | exact Kd.N_nil _ _ _ _ _ | exact Kd.V_nil _ _ _ _ _ | exact Kd.Q_nil _ _ _ _ _ | exact Kd.S_nil _ _ _ _ _⟩, ⟨zB⟩⟩
 case round =>
  clear H'; (try clear p2); obtain ⟨x5_1, x6_1, x7_1, rfl, rfl, HA, HK1, HO_5, HB⟩ := hrel; cases gk with
  | zero => exact absurd HA.out (by simp [lockageref16_add.l0])
  | succ k1 =>
   have H := HA.out; clear HA; simp only [lockageref16_add.l0] at H; by_cases c3 : x7_1 < (l0.length : Int)
   ·rw [if_pos c3] at H; have c3b0 := decide_eq_true c3; clear c3; have HC4 := aM H; clear H
    go_upto_region 6 with (fail)
    go_cut [23] (fun v23 wc => ∃ (kq : Nat) (x23_3 : Bool), v23 = .bool x23_3 ∧ Aside0 (lockageref16_add.j1 kq l0 a1 x5_1 x6_1 x7_1 x23_3 = some r) ∧ Aside0 (kq ≤ k1) ∧ Aside0 (Kd.R Kd.string 9 wc w.heap.size (fun _ => True) u5 x5_1) ∧ Aside0 (Below w.heap.size w wc))
    case first =>
     have H := HC4.out; clear HC4; by_cases c5 : x6_1 = true
     ·subst c5; rw [if_pos rfl] at H; have H' := aM H; clear H
      go_wp2
      go_meet
      case rel => exact ⟨_, (false), zR, H', ⟨by have := HK1.out; first | omega | exact Nat.le_refl _⟩, ⟨zO HO_5.out⟩, ⟨zB⟩⟩
     ·replace c5 := Bool.eq_false_iff.mpr c5; subst c5; rw [if_neg (show ¬ (false = true) by decide)] at H; by_cases c6 : 0 ≤ x7_1
      ·rw [if_pos c6] at H; have c6b0 := decide_eq_true c6; clear c6
       (first | rw [c6b0] | (simp only [i64_w, i32_w]; rw [c6b0]) | skip)
       have H' := aM H; clear H; have p346 : 0 ≤ (x7_1 : Int) := of_decide_eq_true zA; have q346 : x7_1 < (l0.length : Int) := of_decide_eq_true zA; obtain ⟨ad346, e346, hx346_0⟩ := Kd.at_string HR0.out x7_1 p346 q346; cases e346; replace hx346_0 := (HB.out.cell (World.block_lt_of_cell? w _ hx346_0)).trans hx346_0; replace p346 := eq_true p346; replace q346 := eq_true q346
       go_wp2
       go_meet
       case rel => exact ⟨_, (!(Op.bytesLess ((rdOf ByteArray.empty l0 x7_1).toList) a1.toList)), zR, H', ⟨by have := HK1.out; first | omega | exact Nat.le_refl _⟩, ⟨zO HO_5.out⟩, ⟨zB⟩⟩
      ·exact zf c6 H
    case rest =>
     clear HC4; (try clear p2); (try clear c3); (try clear c3b0); (try clear p3); (try clear q3); (try clear hx3); (try clear c4); (try clear c5); (try clear c6); (try clear c6b0); (try clear hx346_0); (try clear p2); (try clear p346); (try clear q346); obtain ⟨kq, x23_3, rfl, HA, HJ3, HO_5, HB⟩ := hcut; cases kq with
     | zero => exact absurd HA.out (by simp [lockageref16_add.j1])
     | succ kj3 =>
      have H := HA.out; clear HA; simp only [lockageref16_add.j1] at H; have HC7 := aM H; clear H
      go_upto_if 23 with (fail)
      go_cut [5, 6] (fun v5 v6 wc => ∃ (kq : Nat) (x5_6 : List ByteArray) (x6_6 : Bool), v6 = .bool x6_6 ∧ Aside0 (lockageref16_add.j2 kq l0 a1 x5_6 x6_6 x7_1 = some r) ∧ Aside0 (kq ≤ kj3) ∧ Aside0 (Kd.R Kd.string 9 wc w.heap.size (fun _ => True) v5 x5_6) ∧ Aside0 (Below w.heap.size w wc))
      case first =>
       have H := HC7.out; clear HC7; by_cases c8 : x23_3 = true
       ·subst c8; rw [if_pos rfl] at H; by_cases c9 : x5_1.length < 8796093022208
        ·rw [if_pos c9] at H; have LMc9 := aM c9; clear c9; obtain ⟨y347, hy347⟩ : ∃ y_ : List ByteArray, y_ = (x5_1 ++ [a1]) := ⟨_, rfl⟩; (replace H : (lockageref16_add.j2 kj3 l0 a1 y347 true x7_1) = some r := zN hy347 H); have Ny347 := aM hy347; clear hy347; have H' := aM H; clear H
         go_wp2_with (first | ((with_reducible refine gate_builtin (b := .append) (xs := #[.tmp 24, .tmp 26]) rfl ?_); at_builtin; refine Kd.R_append Kd.string (w0 := w) w.heap.size rfl (.tmp 24) (.tmp 26) 27 9 (.string ⟨#[]⟩) 16 rfl Tryz.underlying27 info9 rfl (by decide) (by omega) u5 x5_1 a1 [.string a1] (fun _ => True) (fun _ => False) rfl rfl ?aP (fun _ hk => hk.elim) ?aF ?aO ?aB ?aS ?aL ?_; (case aP => exact rfl); (case aB => exact zB); (case aF => exact (fun _ _ => trivial)); (case aO => exact zO HO_5.out); (case aS => exact (below_size zB)); (case aL => have := LMc9.out; omega); intro v348 w10 ho hb hg hat; rw [← Ny347.out] at ho; replace HB := aM hb; have HO349 := aM ho; clear HO_5; clear ho hb hg hat))
         go_meet
         case rel => exact ⟨_, (y347), (true), zR, H', ⟨by have := HK1.out; have := HJ3.out; first | omega | exact Nat.le_refl _⟩, ⟨zO HO349.out⟩, ⟨zB⟩⟩
        ·exact zf c9 H
       ·replace c8 := Bool.eq_false_iff.mpr c8; subst c8; rw [if_neg (show ¬ (false = true) by decide)] at H; have H' := aM H; clear H
        go_wp2
        go_meet
        case rel => exact ⟨_, (x5_1), (x6_1), zR, H', ⟨by have := HK1.out; have := HJ3.out; first | omega | exact Nat.le_refl _⟩, ⟨zO HO_5.out⟩, ⟨zB⟩⟩
      case rest =>
       clear HC7; (try clear p2); (try clear c3); (try clear c3b0); (try clear p3); (try clear q3); (try clear hx3); (try clear c4); (try clear c5); (try clear c6); (try clear c6b0); (try clear c8); (try clear c9); (try clear hx346_0); (try clear p2); (try clear p3); (try clear p346); (try clear q3); (try clear q346); obtain ⟨kq, x5_6, x6_6, rfl, HA, HJ6, HO_5, HB⟩ := hcut; cases kq with
       | zero => exact absurd HA.out (by simp [lockageref16_add.j2])
       | succ kj6 =>
        have H := HA.out; clear HA; simp only [lockageref16_add.j2] at H; by_cases c11 : 0 ≤ x7_1
        ·rw [if_pos c11] at H; have c11b0 := decide_eq_true c11; clear c11; by_cases c12 : x7_1 < (l0.length : Int)
         ·rw [if_pos c12] at H; have c12b0 := decide_eq_true c12; clear c12; by_cases c13 : (rdOf ByteArray.empty l0 x7_1).toList = a1.toList
          ·rw [if_pos c13] at H; obtain ⟨c13b0, c13b1⟩ := zd c13; clear c13; have H' := aM H; clear H; have p350 : 0 ≤ (x7_1 : Int) := of_decide_eq_true zA; have q350 : x7_1 < (l0.length : Int) := of_decide_eq_true zA; obtain ⟨ad350, e350, hx350_0⟩ := Kd.at_string HR0.out x7_1 p350 q350; cases e350; replace hx350_0 := (HB.out.cell (World.block_lt_of_cell? w _ hx350_0)).trans hx350_0; replace p350 := eq_true p350; replace q350 := eq_true q350
           go_wp2
           go_roundg kj6
           case measure => have := HK1.out; have := HJ3.out; have := HJ6.out; omega
           case rel => exact ⟨(x5_6), (x6_6), (wrap64 (x7_1 + 1)), zR, zR, H', ⟨by have := HK1.out; have := HJ3.out; have := HJ6.out; omega⟩, ⟨zO HO_5.out⟩, ⟨zB⟩⟩
          ·rw [if_neg c13] at H; obtain ⟨c13b0, c13b1⟩ := ze c13; by_cases c14 : x5_6.length < 8796093022208
           ·rw [if_pos c14] at H; have LMc14 := aM c14; clear c14; obtain ⟨y352, hy352⟩ : ∃ y_ : List ByteArray, y_ = (x5_6 ++ [rdOf ByteArray.empty l0 x7_1]) := ⟨_, rfl⟩; (replace H : (lockageref16_add.l0 kj6 l0 a1 y352 x6_6 (wrap64 (x7_1 + 1))) = some r := zN hy352 H); have Ny352 := aM hy352; clear hy352; have H' := aM H; clear H; have p350 : 0 ≤ (x7_1 : Int) := of_decide_eq_true zA; have q350 : x7_1 < (l0.length : Int) := of_decide_eq_true zA; obtain ⟨ad350, e350, hx350_0⟩ := Kd.at_string HR0.out x7_1 p350 q350; cases e350; replace hx350_0 := (HB.out.cell (World.block_lt_of_cell? w _ hx350_0)).trans hx350_0; replace p350 := eq_true p350; replace q350 := eq_true q350; have p351 : 0 ≤ (x7_1 : Int) := of_decide_eq_true zA; have q351 : x7_1 < (l0.length : Int) := of_decide_eq_true zA; obtain ⟨ad351, e351, hx351_0⟩ := Kd.at_string HR0.out x7_1 p351 q351; obtain rfl : ad350 = ad351 := (by injection e351); replace hx351_0 := (HB.out.cell (World.block_lt_of_cell? w _ hx351_0)).trans hx351_0; replace p351 := eq_true p351; replace q351 := eq_true q351
            go_wp2_with (first | ((with_reducible refine gate_builtin (b := .append) (xs := #[.tmp 34, .tmp 39]) rfl ?_); at_builtin; refine Kd.R_append Kd.string (w0 := w) w.heap.size rfl (.tmp 34) (.tmp 39) 27 9 (.string ⟨#[]⟩) 16 rfl Tryz.underlying27 info9 rfl (by decide) (by omega) u5 x5_6 (rdOf ByteArray.empty l0 x7_1) [.string (rdOf ByteArray.empty l0 x7_1)] (fun _ => True) (fun _ => False) rfl rfl ?aP (fun _ hk => hk.elim) ?aF ?aO ?aB ?aS ?aL ?_; (case aP => exact rfl); (case aB => exact zB); (case aF => exact (fun _ _ => trivial)); (case aO => exact zO HO_5.out); (case aS => exact (below_size zB)); (case aL => have := LMc14.out; omega); intro v353 w15 ho hb hg hat; rw [← Ny352.out] at ho; replace HB := aM hb; have HO354 := aM ho; clear HO_5; clear ho hb hg hat))
            go_roundg kj6
            case measure => have := HK1.out; have := HJ3.out; have := HJ6.out; omega
            case rel => exact ⟨(y352), (x6_6), (wrap64 (x7_1 + 1)), zR, zR, H', ⟨by have := HK1.out; have := HJ3.out; have := HJ6.out; omega⟩, ⟨zO HO354.out⟩, ⟨zB⟩⟩
           ·exact zf c14 H
         ·exact zf c12 H
        ·exact zf c11 H
   ·rw [if_neg c3] at H; have c3b0 := decide_eq_false c3; clear c3; by_cases c16 : x6_1 = true
    ·subst c16; rw [if_pos rfl] at H; obtain rfl := Option.some.inj H
     go_wp2
     go_ret
     exact ⟨_, zE, zO HO_5.out, zB⟩
    ·replace c16 := Bool.eq_false_iff.mpr c16; subst c16; rw [if_neg (show ¬ (false = true) by decide)] at H; by_cases c17 : x5_1.length < 8796093022208
     ·rw [if_pos c17] at H; have LMc17 := aM c17; clear c17; obtain ⟨y355, hy355⟩ : ∃ y_ : List ByteArray, y_ = (x5_1 ++ [a1]) := ⟨_, rfl⟩; (replace H : (some y355) = some r := zN hy355 H); have Ny355 := aM hy355; clear hy355; obtain rfl := Option.some.inj H
      go_wp2_with (first | ((with_reducible refine gate_builtin (b := .append) (xs := #[.tmp 43, .tmp 45]) rfl ?_); at_builtin; refine Kd.R_append Kd.string (w0 := w) w.heap.size rfl (.tmp 43) (.tmp 45) 27 9 (.string ⟨#[]⟩) 16 rfl Tryz.underlying27 info9 rfl (by decide) (by omega) u5 x5_1 a1 [.string a1] (fun _ => True) (fun _ => False) rfl rfl ?aP (fun _ hk => hk.elim) ?aF ?aO ?aB ?aS ?aL ?_; (case aP => exact rfl); (case aB => exact zB); (case aF => exact (fun _ _ => trivial)); (case aO => exact zO HO_5.out); (case aS => exact (below_size zB)); (case aL => have := LMc17.out; omega); intro v356 w18 ho hb hg hat; rw [← Ny355.out] at ho; replace HB := aM hb; have HO357 := aM ho; clear HO_5; clear ho hb hg hat))
      go_ret
      exact ⟨_, zE, zO HO357.out, zB⟩
     ·exact zf c17 H

mutual
def lockageref16_Vary.l0 : Nat → List ByteArray → List ByteArray → Int → Option (List ByteArray × Bool)
 | 0, _, _, _ => none
 | k + 1, x4, x5, x6 => if x6 < (x5.length : Int) then (if 0 ≤ x6 then ((lockageref05_Items.f k (rdOf ByteArray.empty x5 x6)).bind fun t362 => (lockageref16_Vary.l1 k x4 x5 x6 t362 0)) else (none)) else (some (x4, true))
def lockageref16_Vary.l1 : Nat → List ByteArray → List ByteArray → Int → List ByteArray → Int → Option (List ByteArray × Bool)
 | 0, _, _, _, _, _ => none
 | k + 1, x4, x5, x6, x7, x8 => if x8 < (x7.length : Int) then (if 0 ≤ x8 then (if (rdOf ByteArray.empty x7 x8).toList = ([42] : List UInt8) then (some (([] : List ByteArray), false)) else ((lockageref16_add.f k x4 (rdOf ByteArray.empty x7 x8)).bind fun t367 => (lockageref16_Vary.l1 k t367 x5 x6 x7 (wrap64 (x8 + 1))))) else (none)) else (lockageref16_Vary.l0 k x4 x5 (wrap64 (x6 + 1)))
end
def lockageref16_Vary.f (k : Nat) (l0 : List (S37)) : Option (List ByteArray × Bool) := (lockageref05_Get.f k l0 (⟨#[118, 97, 114, 121]⟩ : ByteArray)).bind fun t358 => (lockageref16_Vary.l0 k ([] : List ByteArray) t358 0)
theorem lockageref16_Vary.mono_l : ∀ k, (∀ y0 y1 y2, LeO (lockageref16_Vary.l0 k y0 y1 y2) (lockageref16_Vary.l0 (k + 1) y0 y1 y2)) ∧ (∀ y0 y1 y2 y3 y4, LeO (lockageref16_Vary.l1 k y0 y1 y2 y3 y4) (lockageref16_Vary.l1 (k + 1) y0 y1 y2 y3 y4))
 | 0 => ⟨fun _ _ _ r h => by simp [lockageref16_Vary.l0] at h, fun _ _ _ _ _ r h => by simp [lockageref16_Vary.l1] at h⟩
 | k + 1 => by
  obtain ⟨ih0, ih1⟩ := lockageref16_Vary.mono_l k
  refine ⟨?_, ?_⟩
  ·intro y0 y1 y2
   unfold lockageref16_Vary.l0; have m0 := @lockageref05_Get.mono; have m1 := @lockageref05_Items.mono; have m2 := @lockageref16_add.mono; exact zM
  ·intro y0 y1 y2 y3 y4
   unfold lockageref16_Vary.l1; have m0 := @lockageref05_Get.mono; have m1 := @lockageref05_Items.mono; have m2 := @lockageref16_add.mono; exact zM
theorem lockageref16_Vary.mono : ∀ a0 k, LeO (lockageref16_Vary.f k a0) (lockageref16_Vary.f (k + 1) a0) := by
 intro a0 k
 obtain ⟨ih0, ih1⟩ := lockageref16_Vary.mono_l k
 unfold lockageref16_Vary.f; have m0 := @lockageref05_Get.mono; have m1 := @lockageref05_Items.mono; have m2 := @lockageref16_add.mono; exact zM
set_option maxHeartbeats 8000000 in
set_option maxRecDepth 100000 in
theorem lockageref16_Vary.calls (k : Nat) (A0 : Option Addr) (c0 : Nat) (l0 : List (S37)) (r1 : List ByteArray) (r2 : Bool) (w : World) (hr0 : Kd.C k37 w A0 l0.length l0) (hc0 : l0.length ≤ c0) (h : lockageref16_Vary.f k l0 = some (r1, r2)) :
  Calls Tryz.prog 26 #[.slice A0 l0.length c0] w fun e w' => ∃ v0_ : Value, e = .returned (.tuple #[v0_, .bool r2]) ∧ Kd.R Kd.string 9 w' w.heap.size (fun _ => True) v0_ r1 ∧ Below w.heap.size w w' := by
 have HR0 := aM hr0; have HC0 := aM hc0; clear hr0 hc0; have HB := aM (Below.refl w.heap.size w); have H : ((lockageref05_Get.f k l0 (⟨#[118, 97, 114, 121]⟩ : ByteArray)).bind fun t358 => (lockageref16_Vary.l0 k ([] : List ByteArray) t358 0)) = some (r1, r2) := h; clear h; replace H := Option.bind_eq_some_iff.mp H; obtain ⟨t358, A20, H⟩ := H; replace H : (lockageref16_Vary.l0 k ([] : List ByteArray) t358 0) = some (r1, r2) := H; have A2 := aM A20; clear A20; have H' := aM H; clear H
 go_enter Tryz.func26, Tryz.ntmps26
 go_wp2_with (first | ((with_reducible refine gate_callee (f := 21) rfl ?_); refine goesL_ (some 10) rfl rfl Tryz.func21 (by kernel_rfl) rfl #[.slice A0 l0.length c0, .string (⟨#[118, 97, 114, 121]⟩ : ByteArray)] rfl zL ?_; (with_reducible refine (lockageref05_Get.calls k _ _ l0 (⟨#[118, 97, 114, 121]⟩ : ByteArray) t358 _ ?side1 ?side2 A2.out).mono ?_); (case side1 => repeat (first | exact HR0.out | (with_reducible refine Kd.C_alloc ?_ _) | (with_reducible refine Kd.C_drewN ?_ _) | (with_reducible refine Kd.C_drew ?_))); (case side2 => exact HC0.out); rintro e w3 ⟨v359, rfl, ho0, hb⟩; refine ⟨_, rfl, ?_⟩; have HO360 := aM (Kd.R_lower ho0 (below_size zB)); replace HB := aM (below_step zB hb); clear hb ho0))
 go_loopg [4, 6] k (fun kq v4 v6 w' => ∃ (x4_1 : List ByteArray) (x6_1 : Int), v6 = .int .i64 x6_1 ∧ Aside0 (lockageref16_Vary.l0 kq x4_1 t358 x6_1 = some (r1, r2)) ∧ Aside0 (kq ≤ k) ∧ Aside0 (Kd.R Kd.string 9 w' w.heap.size (fun k_ => some k_ ≠ (v359 : Value).ownBlock) v4 x4_1) ∧ Aside0 (Kd.R Kd.string 9 w' w.heap.size (fun k_ => some k_ ≠ (v4 : Value).ownBlock) v359 t358) ∧ Aside0 (Below w.heap.size w w'))
 case atStart => exact ⟨(([] : List ByteArray)), (0), zR, H', ⟨Nat.le_refl _⟩, ⟨by first | exact Kd.R_nil _ _ _ _ _ | exact Kd.N_nil _ _ _ _ _ | exact Kd.V_nil _ _ _ _ _ | exact Kd.Q_nil _ _ _ _ _ | exact Kd.S_nil _ _ _ _ _⟩, ⟨by (with_reducible repeat (first | apply rA | apply rN | apply rD)); exact Kd.R_mono HO360.out (fun _ hk => (by simp [Value.ownBlock]))⟩, ⟨zB⟩⟩
 case round =>
  clear H'; (try clear c2); (try clear p2); obtain ⟨x4_1, x6_1, rfl, HA, HK1, HO_4, HO_5, HB⟩ := hrel; cases gk with
  | zero => exact absurd HA.out (by simp [lockageref16_Vary.l0])
  | succ k1 =>
   have H := HA.out; clear HA; simp only [lockageref16_Vary.l0] at H; by_cases c4 : x6_1 < (t358.length : Int)
   ·rw [if_pos c4] at H; have c4b0 := decide_eq_true c4; clear c4; by_cases c5 : 0 ≤ x6_1
    ·rw [if_pos c5] at H; have c5b0 := decide_eq_true c5; clear c5; replace H := Option.bind_eq_some_iff.mp H; obtain ⟨t362, A60, H⟩ := H; replace H : (lockageref16_Vary.l1 k1 x4_1 t358 x6_1 t362 0) = some (r1, r2) := H; have A6 := aM A60; clear A60; have H' := aM H; clear H; obtain ⟨Ao7, co7, eo7⟩ := Kd.R_slice HO_5.out; subst eo7; have p361 : 0 ≤ (x6_1 : Int) := of_decide_eq_true zA; have q361 : x6_1 < (t358.length : Int) := of_decide_eq_true zA; obtain ⟨ad361, e361, hx361_0⟩ := Kd.at_string (Kd.R_reads' HO_5.out).2.2 x6_1 p361 q361; cases e361; replace p361 := eq_true p361; replace q361 := eq_true q361
     go_wp2_with (first | ((with_reducible refine gate_callee (f := 45) rfl ?_); refine goesL_ (some 21) rfl rfl Tryz.func45 (by kernel_rfl) rfl #[.string (rdOf ByteArray.empty t358 x6_1)] rfl zL ?_; (with_reducible refine (lockageref05_Items.calls k1 (rdOf ByteArray.empty t358 x6_1) t362 _ A6.out).mono ?_); rintro e w8 ⟨v363, rfl, ho0, hb⟩; refine ⟨_, rfl, ?_⟩; have HO364 := aM (Kd.R_lower (Kd.R_new' (Kd.R_new' ho0 (Kd.R_lt (zO HO_4.out))) (Kd.R_lt (zO HO_5.out))) (below_size zB)); replace HO_4 := aM (Kd.R_elder' (zO HO_4.out) (Kd.R_base ho0) hb); replace HO_5 := aM (Kd.R_elder' (zO HO_5.out) (Kd.R_base ho0) hb); replace HB := aM (below_step zB hb); clear hb ho0))
     go_loopg [4, 8] k1 (fun kq v4 v8 w' => ∃ (x4_2 : List ByteArray) (x8_2 : Int), v8 = .int .i64 x8_2 ∧ Aside0 (lockageref16_Vary.l1 kq x4_2 t358 x6_1 t362 x8_2 = some (r1, r2)) ∧ Aside0 (kq ≤ k1) ∧ Aside0 (Kd.R Kd.string 9 w' w.heap.size (fun k_ => some k_ ≠ ((.slice (some ad361) t358.length co7) : Value).ownBlock ∧ some k_ ≠ (v363 : Value).ownBlock) v4 x4_2) ∧ Aside0 (Kd.R Kd.string 9 w' w.heap.size (fun k_ => some k_ ≠ (v4 : Value).ownBlock ∧ some k_ ≠ (v363 : Value).ownBlock) (.slice (some ad361) t358.length co7) t358) ∧ Aside0 (Kd.R Kd.string 9 w' w.heap.size (fun k_ => some k_ ≠ (v4 : Value).ownBlock ∧ some k_ ≠ ((.slice (some ad361) t358.length co7) : Value).ownBlock) v363 t362) ∧ Aside0 (Below w.heap.size w w'))
     case atStart => exact ⟨(x4_1), (0), zR, H', ⟨Nat.le_refl _⟩, ⟨zO HO_4.out⟩, ⟨zO HO_5.out⟩, ⟨by (with_reducible repeat (first | apply rA | apply rN | apply rD)); exact Kd.R_mono HO364.out (fun _ hk => ⟨hk.1.2, hk.2⟩)⟩, ⟨zB⟩⟩
     case round =>
      clear H'; (try clear c2); (try clear p2); (try clear p3); (try clear q3); (try clear hx3); (try clear c4); (try clear c4b0); (try clear c5); (try clear c5b0); (try clear hx361_0); (try clear p2); (try clear p361); (try clear q361); obtain ⟨x4_2, x8_2, rfl, HA, HK2, HO_4, HO_5, HO_7, HB⟩ := hrel; cases gk with
      | zero => exact absurd HA.out (by simp [lockageref16_Vary.l1])
      | succ k2 =>
       have H := HA.out; clear HA; simp only [lockageref16_Vary.l1] at H; by_cases c9 : x8_2 < (t362.length : Int)
       ·rw [if_pos c9] at H; have c9b0 := decide_eq_true c9; clear c9; by_cases c10 : 0 ≤ x8_2
        ·rw [if_pos c10] at H; have c10b0 := decide_eq_true c10; clear c10; by_cases c11 : (rdOf ByteArray.empty t362 x8_2).toList = ([42] : List UInt8)
         ·rw [if_pos c11] at H; obtain ⟨c11b0, c11b1⟩ := zd c11; clear c11; simp only [Option.some.injEq, Prod.mk.injEq] at H; obtain ⟨rfl, rfl⟩ := H; obtain ⟨Ao12, co12, eo12⟩ := Kd.R_slice HO_7.out; subst eo12; have p365 : 0 ≤ (x8_2 : Int) := of_decide_eq_true zA; have q365 : x8_2 < (t362.length : Int) := of_decide_eq_true zA; obtain ⟨ad365, e365, hx365_0⟩ := Kd.at_string (Kd.R_reads' HO_7.out).2.2 x8_2 p365 q365; cases e365; replace p365 := eq_true p365; replace q365 := eq_true q365
          go_wp2
          go_ret2
          exact ⟨_, zE, by first | exact Kd.R_nil _ _ _ _ _ | exact Kd.N_nil _ _ _ _ _ | exact Kd.V_nil _ _ _ _ _ | exact Kd.Q_nil _ _ _ _ _ | exact Kd.S_nil _ _ _ _ _, zB⟩
         ·rw [if_neg c11] at H; obtain ⟨c11b0, c11b1⟩ := ze c11; replace H := Option.bind_eq_some_iff.mp H; obtain ⟨t367, A130, H⟩ := H; replace H : (lockageref16_Vary.l1 k2 t367 t358 x6_1 t362 (wrap64 (x8_2 + 1))) = some (r1, r2) := H; have A13 := aM A130; clear A130; have H' := aM H; clear H; obtain ⟨Ao14, co14, eo14⟩ := Kd.R_slice HO_7.out; subst eo14; have p365 : 0 ≤ (x8_2 : Int) := of_decide_eq_true zA; have q365 : x8_2 < (t362.length : Int) := of_decide_eq_true zA; obtain ⟨ad365, e365, hx365_0⟩ := Kd.at_string (Kd.R_reads' HO_7.out).2.2 x8_2 p365 q365; cases e365; replace p365 := eq_true p365; replace q365 := eq_true q365; have p366 : 0 ≤ (x8_2 : Int) := of_decide_eq_true zA; have q366 : x8_2 < (t362.length : Int) := of_decide_eq_true zA; obtain ⟨ad366, e366, hx366_0⟩ := Kd.at_string (Kd.R_reads' HO_7.out).2.2 x8_2 p366 q366; obtain rfl : ad365 = ad366 := (by injection e366); replace p366 := eq_true p366; replace q366 := eq_true q366; obtain ⟨Ao15, co15, eo15⟩ := Kd.R_slice HO_4.out; subst eo15
          go_wp2_with (first | ((with_reducible refine gate_callee (f := 46) rfl ?_); refine goesL_ (some 38) rfl rfl Tryz.func46 (by kernel_rfl) rfl #[.slice Ao15 x4_2.length co15, .string (rdOf ByteArray.empty t362 x8_2)] rfl zL ?_; (with_reducible refine (lockageref16_add.calls k2 _ _ x4_2 (rdOf ByteArray.empty t362 x8_2) t367 _ ?side1 ?side2 A13.out).mono ?_); (case side1 => exact zC ((Kd.R_reads' HO_4.out).2.2)); (case side2 => exact (Kd.R_reads' HO_4.out).2.1); rintro e w16 ⟨v368, rfl, ho0, hb⟩; refine ⟨_, rfl, ?_⟩; have HO369 := aM (Kd.R_lower (Kd.R_new' (Kd.R_new' (Kd.R_new' ho0 (Kd.R_lt (zO HO_4.out))) (Kd.R_lt (zO HO_5.out))) (Kd.R_lt (zO HO_7.out))) (below_size zB)); replace HO_4 := aM (Kd.R_elder' (zO HO_4.out) (Kd.R_base ho0) hb); replace HO_5 := aM (Kd.R_elder' (zO HO_5.out) (Kd.R_base ho0) hb); replace HO_7 := aM (Kd.R_elder' (zO HO_7.out) (Kd.R_base ho0) hb); replace HB := aM (below_step zB hb); clear hb ho0))
          go_roundg k2
          case measure => have := HK1.out; have := HK2.out; omega
          case rel => exact ⟨(t367), (wrap64 (x8_2 + 1)), zR, H', ⟨by have := HK1.out; have := HK2.out; omega⟩, ⟨by (with_reducible repeat (first | apply rA | apply rN | apply rD)); exact Kd.R_mono HO369.out (fun _ hk => ⟨hk.1.2, hk.2⟩)⟩, ⟨by (with_reducible repeat (first | apply rA | apply rN | apply rD)); exact Kd.R_mono HO_5.out (fun _ hk => ⟨hk.2, hk.1.2⟩)⟩, ⟨by (with_reducible repeat (first | apply rA | apply rN | apply rD)); exact Kd.R_mono HO_7.out (fun _ hk => ⟨hk.2, hk.1.2⟩)⟩, ⟨zB⟩⟩
        ·exact zf c10 H
       ·rw [if_neg c9] at H; have c9b0 := decide_eq_false c9; clear c9; have H' := aM H; clear H; obtain ⟨Ao17, co17, eo17⟩ := Kd.R_slice HO_7.out; subst eo17
        go_wp2
        go_roundg k2
        case measure => have := HK1.out; have := HK2.out; omega
        case rel => exact ⟨(x4_2), (wrap64 (x6_1 + 1)), zR, H', ⟨by have := HK1.out; have := HK2.out; omega⟩, ⟨by (with_reducible repeat (first | apply rA | apply rN | apply rD)); exact Kd.R_mono HO_4.out (fun _ hk => hk.1)⟩, ⟨by (with_reducible repeat (first | apply rA | apply rN | apply rD)); exact Kd.R_mono HO_5.out (fun _ hk => hk.1)⟩, ⟨zB⟩⟩
    ·exact zf c5 H
   ·rw [if_neg c4] at H; have c4b0 := decide_eq_false c4; clear c4; simp only [Option.some.injEq, Prod.mk.injEq] at H; obtain ⟨rfl, rfl⟩ := H; obtain ⟨Ao18, co18, eo18⟩ := Kd.R_slice HO_5.out; subst eo18
    go_wp2
    go_ret2
    exact ⟨_, zE, by (with_reducible repeat (first | apply rA | apply rN | apply rD)); exact Kd.R_mono HO_4.out (fun _ hk => trivial), zB⟩

mutual
def lockageref16_Split.l0 : Nat → List ByteArray → List (S37) → ByteArray → Int → Option (ByteArray)
 | 0, _, _, _, _ => none
 | k + 1, x0, x1, x5, x6 => if x6 < (x0.length : Int) then (if 0 ≤ x6 then ((lockageref05_Get.f k x1 (rdOf ByteArray.empty x0 x6)).bind fun t371 => ((lockageref05_Lower.f k (rdOf ByteArray.empty x0 x6)).bind fun t375 => (if x5.size + t375.size ≤ 9223372036854775807 then (if (x5 ++ t375).size + 1 ≤ 9223372036854775807 then (lockageref16_Split.l1 k x0 x1 ((x5 ++ t375) ++ (⟨#[58]⟩ : ByteArray)) x6 t371 0) else (none)) else (none)))) else (none)) else (some x5)
def lockageref16_Split.l1 : Nat → List ByteArray → List (S37) → ByteArray → Int → List ByteArray → Int → Option (ByteArray)
 | 0, _, _, _, _, _, _ => none
 | k + 1, x0, x1, x5, x6, x7, x8 => if x8 < (x7.length : Int) then (if 0 ≤ x8 then (if x5.size + (rdOf ByteArray.empty x7 x8).size ≤ 9223372036854775807 then (if (x5 ++ (rdOf ByteArray.empty x7 x8)).size + 1 ≤ 9223372036854775807 then (lockageref16_Split.l1 k x0 x1 ((x5 ++ (rdOf ByteArray.empty x7 x8)) ++ (⟨#[10]⟩ : ByteArray)) x6 x7 (wrap64 (x8 + 1))) else (none)) else (none)) else (none)) else (if x5.size + 1 ≤ 9223372036854775807 then (lockageref16_Split.l0 k x0 x1 (x5 ++ (⟨#[10]⟩ : ByteArray)) (wrap64 (x6 + 1))) else (none))
end
def lockageref16_Split.f (k : Nat) (l0 : List ByteArray) (l1 : List (S37)) : Option (ByteArray) := lockageref16_Split.l0 k l0 l1 (⟨#[]⟩ : ByteArray) 0
theorem lockageref16_Split.mono_l : ∀ k, (∀ y0 y1 y2 y3, LeO (lockageref16_Split.l0 k y0 y1 y2 y3) (lockageref16_Split.l0 (k + 1) y0 y1 y2 y3)) ∧ (∀ y0 y1 y2 y3 y4 y5, LeO (lockageref16_Split.l1 k y0 y1 y2 y3 y4 y5) (lockageref16_Split.l1 (k + 1) y0 y1 y2 y3 y4 y5))
 | 0 => ⟨fun _ _ _ _ r h => by simp [lockageref16_Split.l0] at h, fun _ _ _ _ _ _ r h => by simp [lockageref16_Split.l1] at h⟩
 | k + 1 => by
  obtain ⟨ih0, ih1⟩ := lockageref16_Split.mono_l k
  refine ⟨?_, ?_⟩
  ·intro y0 y1 y2 y3
   unfold lockageref16_Split.l0; have m0 := @lockageref05_Get.mono; have m1 := @lockageref05_Lower.mono; exact zM
  ·intro y0 y1 y2 y3 y4 y5
   unfold lockageref16_Split.l1; have m0 := @lockageref05_Get.mono; have m1 := @lockageref05_Lower.mono; exact zM
theorem lockageref16_Split.mono : ∀ a0 a1 k, LeO (lockageref16_Split.f k a0 a1) (lockageref16_Split.f (k + 1) a0 a1) := by
 intro a0 a1 k
 obtain ⟨ih0, ih1⟩ := lockageref16_Split.mono_l k
 unfold lockageref16_Split.f; have m0 := @lockageref05_Get.mono; have m1 := @lockageref05_Lower.mono; exact zM
set_option maxHeartbeats 8000000 in
set_option maxRecDepth 100000 in
theorem lockageref16_Split.calls (k : Nat) (A0 : Option Addr) (c0 : Nat) (l0 : List ByteArray) (A1 : Option Addr) (c1 : Nat) (l1 : List (S37)) (r : ByteArray) (w : World) (hr0 : Kd.C Kd.string w A0 l0.length l0) (hc0 : l0.length ≤ c0) (hr1 : Kd.C k37 w A1 l1.length l1) (hc1 : l1.length ≤ c1) (h : lockageref16_Split.f k l0 l1 = some r) :
  Calls Tryz.prog 27 #[.slice A0 l0.length c0, .slice A1 l1.length c1] w fun e w' => e = .returned (.string r) ∧ Below w.heap.size w w' := by
 have HR0 := aM hr0; have HC0 := aM hc0; clear hr0 hc0; have HR1 := aM hr1; have HC1 := aM hc1; clear hr1 hc1; have HB := aM (Below.refl w.heap.size w); have H : (lockageref16_Split.l0 k l0 l1 (⟨#[]⟩ : ByteArray) 0) = some r := h; clear h; have H' := aM H; clear H
 go_enter Tryz.func27, Tryz.ntmps27
 go_wp2
 go_loopg [5, 6] k (fun kq v5 v6 w' => ∃ (x5_1 : ByteArray) (x6_1 : Int), v5 = .string x5_1 ∧ v6 = .int .i64 x6_1 ∧ Aside0 (lockageref16_Split.l0 kq l0 l1 x5_1 x6_1 = some r) ∧ Aside0 (kq ≤ k) ∧ Aside0 (Below w.heap.size w w'))
 case atStart => exact ⟨((⟨#[]⟩ : ByteArray)), (0), zR, zR, H', ⟨Nat.le_refl _⟩, ⟨zB⟩⟩
 case round =>
  clear H'; (try clear c1); (try clear c2); (try clear p2); obtain ⟨x5_1, x6_1, rfl, rfl, HA, HK1, HB⟩ := hrel; cases gk with
  | zero => exact absurd HA.out (by simp [lockageref16_Split.l0])
  | succ k1 =>
   have H := HA.out; clear HA; simp only [lockageref16_Split.l0] at H; by_cases c3 : x6_1 < (l0.length : Int)
   ·rw [if_pos c3] at H; have c3b0 := decide_eq_true c3; clear c3; by_cases c4 : 0 ≤ x6_1
    ·rw [if_pos c4] at H; have c4b0 := decide_eq_true c4; clear c4; obtain ⟨t371, A5, H⟩ := zc H; (try dsimp only at H); obtain ⟨t375, A6, H⟩ := zc H; (try dsimp only at H); by_cases c7 : x5_1.size + t375.size ≤ 9223372036854775807
     ·rw [if_pos c7] at H; have c7b0 := eq_true c7; have c7b1 := decide_eq_true c7
      try have c7b2 : (9223372036854775807 < x5_1.size + t375.size) = False := eq_false (Nat.not_lt.2 c7)
      by_cases c8 : (x5_1 ++ t375).size + 1 ≤ 9223372036854775807
      ·rw [if_pos c8] at H; have c8b0 := eq_true c8; have c8b1 := decide_eq_true c8
       try have c8b2 : (9223372036854775807 < (x5_1 ++ t375).size + 1) = False := eq_false (Nat.not_lt.2 c8)
       try have c8b9 : (9223372036854775807 < x5_1.size + t375.size + 1) = False := eq_false (Nat.not_lt.2 (by have z_ := c8; simp only [ByteArray.size_append] at z_; exact z_))
       have H' := aM H; clear H; have p370 : 0 ≤ (x6_1 : Int) := of_decide_eq_true zA; have q370 : x6_1 < (l0.length : Int) := of_decide_eq_true zA; obtain ⟨ad370, e370, hx370_0⟩ := Kd.at_string HR0.out x6_1 p370 q370; cases e370; replace hx370_0 := (HB.out.cell (World.block_lt_of_cell? w _ hx370_0)).trans hx370_0; replace p370 := eq_true p370; replace q370 := eq_true q370
       go_wp2_with (first | ((with_reducible refine gate_callee (f := 21) rfl ?_); refine goesL_ (some 20) rfl rfl Tryz.func21 (by kernel_rfl) rfl #[.slice A1 l1.length c1, .string (rdOf ByteArray.empty l0 x6_1)] rfl zL ?_; (with_reducible refine (lockageref05_Get.calls k1 _ _ l1 (rdOf ByteArray.empty l0 x6_1) t371 _ ?side1 ?side2 A5.out).mono ?_); (case side1 => exact zC (Kd.C_below HR1.out HB.out)); (case side2 => exact HC1.out); rintro e w9 ⟨v372, rfl, ho0, hb⟩; refine ⟨_, rfl, ?_⟩; have HO373 := aM (Kd.R_lower ho0 (below_size zB)); replace HB := aM (below_step zB hb); clear hb ho0; have p374 : 0 ≤ (x6_1 : Int) := of_decide_eq_true zA; have q374 : x6_1 < (l0.length : Int) := of_decide_eq_true zA; obtain ⟨ad374, e374, hx374_0⟩ := Kd.at_string HR0.out x6_1 p374 q374; obtain rfl : ad370 = ad374 := (by injection e374); replace hx374_0 := (HB.out.cell (World.block_lt_of_cell? w _ hx374_0)).trans hx374_0; replace p374 := eq_true p374; replace q374 := eq_true q374) | ((with_reducible refine gate_callee (f := 19) rfl ?_); refine goesL_ (some 26) rfl rfl Tryz.func19 (by kernel_rfl) rfl #[.string (rdOf ByteArray.empty l0 x6_1)] rfl zL ?_; (with_reducible refine (lockageref05_Lower.calls k1 (rdOf ByteArray.empty l0 x6_1) t375 _ A6.out).mono ?_); rintro e w10 ⟨rfl, hb⟩; refine ⟨_, rfl, ?_⟩; replace HO373 := aM (Kd.R_below (zO HO373.out) hb); replace HB := aM (below_step zB hb); clear hb))
       go_loopg [5, 8] k1 (fun kq v5 v8 w' => ∃ (x5_2 : ByteArray) (x8_2 : Int), v5 = .string x5_2 ∧ v8 = .int .i64 x8_2 ∧ Aside0 (lockageref16_Split.l1 kq l0 l1 x5_2 x6_1 t371 x8_2 = some r) ∧ Aside0 (kq ≤ k1) ∧ Aside0 (Kd.R Kd.string 9 w' w.heap.size (fun _ => True) v372 t371) ∧ Aside0 (Below w.heap.size w w'))
       case atStart => exact ⟨((x5_1 ++ t375) ++ (⟨#[58]⟩ : ByteArray)), (0), zR, zR, H', ⟨Nat.le_refl _⟩, ⟨zO HO373.out⟩, ⟨zB⟩⟩
       case round =>
        clear H'; (try clear c1); (try clear c2); (try clear p2); (try clear c3); (try clear c3b0); (try clear p3); (try clear q3); (try clear hx3); (try clear c4); (try clear c4b0); (try clear c7); (try clear c7b0); (try clear c7b1); (try clear c7b2); (try clear c8); (try clear c8b0); (try clear c8b1); (try clear c8b2); (try clear hx370_0); (try clear hx374_0); (try clear p2); (try clear p370); (try clear p374); (try clear q370); (try clear q374); obtain ⟨x5_2, x8_2, rfl, rfl, HA, HK2, HO_7, HB⟩ := hrel; cases gk with
        | zero => exact absurd HA.out (by simp [lockageref16_Split.l1])
        | succ k2 =>
         have H := HA.out; clear HA; simp only [lockageref16_Split.l1] at H; by_cases c11 : x8_2 < (t371.length : Int)
         ·rw [if_pos c11] at H; have c11b0 := decide_eq_true c11; clear c11; by_cases c12 : 0 ≤ x8_2
          ·rw [if_pos c12] at H; have c12b0 := decide_eq_true c12; clear c12; by_cases c13 : x5_2.size + (rdOf ByteArray.empty t371 x8_2).size ≤ 9223372036854775807
           ·rw [if_pos c13] at H; have c13b0 := eq_true c13; have c13b1 := decide_eq_true c13
            try have c13b2 : (9223372036854775807 < x5_2.size + (rdOf ByteArray.empty t371 x8_2).size) = False := eq_false (Nat.not_lt.2 c13)
            by_cases c14 : (x5_2 ++ (rdOf ByteArray.empty t371 x8_2)).size + 1 ≤ 9223372036854775807
            ·rw [if_pos c14] at H; have c14b0 := eq_true c14; have c14b1 := decide_eq_true c14
             try have c14b2 : (9223372036854775807 < (x5_2 ++ (rdOf ByteArray.empty t371 x8_2)).size + 1) = False := eq_false (Nat.not_lt.2 c14)
             try have c14b9 : (9223372036854775807 < x5_2.size + (rdOf ByteArray.empty t371 x8_2).size + 1) = False := eq_false (Nat.not_lt.2 (by have z_ := c14; simp only [ByteArray.size_append] at z_; exact z_))
             have H' := aM H; clear H; obtain ⟨Ao15, co15, eo15⟩ := Kd.R_slice HO_7.out; subst eo15; have p376 : 0 ≤ (x8_2 : Int) := of_decide_eq_true zA; have q376 : x8_2 < (t371.length : Int) := of_decide_eq_true zA; obtain ⟨ad376, e376, hx376_0⟩ := Kd.at_string (Kd.R_reads' HO_7.out).2.2 x8_2 p376 q376; cases e376; replace p376 := eq_true p376; replace q376 := eq_true q376
             go_wp2
             go_roundg k2
             case measure => have := HK1.out; have := HK2.out; omega
             case rel => exact ⟨((x5_2 ++ (rdOf ByteArray.empty t371 x8_2)) ++ (⟨#[10]⟩ : ByteArray)), (wrap64 (x8_2 + 1)), zR, zR, H', ⟨by have := HK1.out; have := HK2.out; omega⟩, ⟨zO HO_7.out⟩, ⟨zB⟩⟩
            ·exact zf c14 H
           ·exact zf c13 H
          ·exact zf c12 H
         ·rw [if_neg c11] at H; have c11b0 := decide_eq_false c11; clear c11; by_cases c16 : x5_2.size + 1 ≤ 9223372036854775807
          ·rw [if_pos c16] at H; have c16b0 := eq_true c16; have c16b1 := decide_eq_true c16
           try have c16b2 : (9223372036854775807 < x5_2.size + 1) = False := eq_false (Nat.not_lt.2 c16)
           have H' := aM H; clear H; obtain ⟨Ao17, co17, eo17⟩ := Kd.R_slice HO_7.out; subst eo17
           go_wp2
           go_roundg k2
           case measure => have := HK1.out; have := HK2.out; omega
           case rel => exact ⟨(x5_2 ++ (⟨#[10]⟩ : ByteArray)), (wrap64 (x6_1 + 1)), zR, zR, H', ⟨by have := HK1.out; have := HK2.out; omega⟩, ⟨zB⟩⟩
          ·exact zf c16 H
      ·exact zf c8 H
     ·exact zf c7 H
    ·exact zf c4 H
   ·rw [if_neg c3] at H; have c3b0 := decide_eq_false c3; clear c3; obtain rfl := Option.some.inj H
    go_wp2
    go_ret
    exact ⟨zE, zB⟩

end Go.Proofs.YthmallhjbhphgaaGreatDoor.P
