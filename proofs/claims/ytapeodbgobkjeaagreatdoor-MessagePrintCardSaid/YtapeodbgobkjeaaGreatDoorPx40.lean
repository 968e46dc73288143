/- Printed by a program of the session out of the translation: plain Lean functions, each with the contract that the Go function computes it. -/
import Derived.Test.YtapeodbgobkjeaaGreatDoorPx47
import Derived.Test.YtapeodbgobkjeaaGreatDoorHZM
import Derived.Test.YtapeodbgobkjeaaGreatDoorPx0
import Derived.Test.YtapeodbgobkjeaaGreatDoorPx28
import Derived.Test.YtapeodbgobkjeaaGreatDoorMNW
import Derived.Test.YtapeodbgobkjeaaGreatDoorPxB
import Derived.Test.YtapeodbgobkjeaaGreatDoorHZC
import Derived.Test.YtapeodbgobkjeaaGreatDoorHZB
namespace Go.Proofs.YtapeodbgobkjeaaGreatDoor.P
open Go.RowKit Go.Proofs.YtapeodbgobkjeaaGreatDoorW.PrintWords Go.Proofs.YtapeodbgobkjeaaGreatDoorW.PrintLast Go.Proofs.YtapeodbgobkjeaaGreatDoorW.PrintMore
attribute [local go_sem] max2_int min2_int max_two min_two max_three min_three max_four min_four   -- for this text's walks alone
set_option linter.unusedVariables false
set_option linter.unusedSimpArgs false

mutual
def lockagelaw09_MessagePrint.j0 : Nat → Bool → ByteArray → ByteArray → Int → ByteArray → Int → List (S40) → ByteArray → Option (Bool)
 | 0, _, _, _, _, _, _, _, _ => none
 | k + 1, x26, x1108000, x1108001, x1108002, x1108003, x1108004, x1108005, x1108006 => if x26 = true then ((lockagelaw09_awake.f k).bind fun t1108 => (some t1108)) else ((some (([false, true] : List Bool) : List Bool)).bind fun y1109 => (lockagelaw09_MessagePrint.l0 k y1109 (y1109.length : Int) 0 x1108000 x1108001 x1108002 x1108003 x1108004 x1108005 x1108006))
def lockagelaw09_MessagePrint.l0 : Nat → List Bool → Int → Int → ByteArray → ByteArray → Int → ByteArray → Int → List (S40) → ByteArray → Option (Bool)
 | 0, _, _, _, _, _, _, _, _, _, _ => none
 | k + 1, x28, x29, x30, x1108000, x1108001, x1108002, x1108003, x1108004, x1108005, x1108006 => if x30 < x29 then (if 0 ≤ x30 then (if x30 < (x28.length : Int) then ((message_Print.f k x1108000 x1108001 x1108002 x1108003 x1108004 x1108005 x1108006 (rdOf false x28 x30)).bind fun bt1114 => ((lockageref09_Print.f k x1108000 x1108001 x1108002 x1108003 x1108004 x1108005 x1108006 (rdOf false x28 x30)).bind fun bt1116 => (if bt1114.1.toList = bt1116.1.toList then (if bt1114.2 = bt1116.2 then (lockagelaw09_MessagePrint.l0 k x28 x29 (wrap64 (x30 + 1)) x1108000 x1108001 x1108002 x1108003 x1108004 x1108005 x1108006) else (none)) else (none)))) else (none)) else (none)) else ((lockagelaw09_awake.f k).bind fun t1112 => (some t1112))
end
def lockagelaw09_MessagePrint.f (k : Nat) (l0 : List Int) (a1 : ByteArray) (a2 : Bool) : Option (Bool) := (lockagelaw06_Made.f k l0 a2).bind fun bt1099 => (if (a1.size : Int) > 600 then (lockagelaw09_MessagePrint.j0 k (decide ((a1.size : Int) ≤ 4000)) bt1099.1 bt1099.2.1 bt1099.2.2.1 bt1099.2.2.2.1 bt1099.2.2.2.2.1 bt1099.2.2.2.2.2 a1) else (lockagelaw09_MessagePrint.j0 k false bt1099.1 bt1099.2.1 bt1099.2.2.1 bt1099.2.2.2.1 bt1099.2.2.2.2.1 bt1099.2.2.2.2.2 a1))
theorem lockagelaw09_MessagePrint.mono_l : ∀ k, (∀ y0 y1 y2 y3 y4 y5 y6 y7, LeO (lockagelaw09_MessagePrint.j0 k y0 y1 y2 y3 y4 y5 y6 y7) (lockagelaw09_MessagePrint.j0 (k + 1) y0 y1 y2 y3 y4 y5 y6 y7)) ∧ (∀ y0 y1 y2 y3 y4 y5 y6 y7 y8 y9, LeO (lockagelaw09_MessagePrint.l0 k y0 y1 y2 y3 y4 y5 y6 y7 y8 y9) (lockagelaw09_MessagePrint.l0 (k + 1) y0 y1 y2 y3 y4 y5 y6 y7 y8 y9))
 | 0 => ⟨fun _ _ _ _ _ _ _ _ r h => by simp [lockagelaw09_MessagePrint.j0] at h, fun _ _ _ _ _ _ _ _ _ _ r h => by simp [lockagelaw09_MessagePrint.l0] at h⟩
 | k + 1 => by
  obtain ⟨ih0, ih1⟩ := lockagelaw09_MessagePrint.mono_l k
  refine ⟨?_, ?_⟩
  ·intro y0 y1 y2 y3 y4 y5 y6 y7
   unfold lockagelaw09_MessagePrint.j0; have m0 := @lockagelaw06_Made.mono; have m1 := @lockagelaw09_awake.mono; have m2 := @lockageref09_Print.mono; have m3 := @message_Print.mono; exact zM
  ·intro y0 y1 y2 y3 y4 y5 y6 y7 y8 y9
   unfold lockagelaw09_MessagePrint.l0; have m0 := @lockagelaw06_Made.mono; have m1 := @lockagelaw09_awake.mono; have m2 := @lockageref09_Print.mono; have m3 := @message_Print.mono; exact zM
theorem lockagelaw09_MessagePrint.mono : ∀ a0 a1 a2 k, LeO (lockagelaw09_MessagePrint.f k a0 a1 a2) (lockagelaw09_MessagePrint.f (k + 1) a0 a1 a2) := by
 intro a0 a1 a2 k
 obtain ⟨ih0, ih1⟩ := lockagelaw09_MessagePrint.mono_l k
 unfold lockagelaw09_MessagePrint.f; have m0 := @lockagelaw06_Made.mono; have m1 := @lockagelaw09_awake.mono; have m2 := @lockageref09_Print.mono; have m3 := @message_Print.mono; exact zM
set_option maxHeartbeats 8000000 in
set_option maxRecDepth 100000 in
theorem lockagelaw09_MessagePrint.calls (k : Nat) (A0 : Option Addr) (c0 : Nat) (l0 : List Int) (a1 : ByteArray) (a2 : Bool) (r : Bool) (w : World) (hr0 : Kd.C (Kd.int .u8) w A0 l0.length l0) (hc0 : l0.length ≤ c0) (hG_ : H.GlobOk w) (h : lockagelaw09_MessagePrint.f k l0 a1 a2 = some r) :
  Calls Tryz.prog 7 #[.slice A0 l0.length c0, .string a1, .bool a2] w fun e w' => e = .returned (.bool r) ∧ Below w.heap.size w w' := by
 have HG_ := aM hG_; clear hG_; have hu49 := Tryz.underlying49; have HR0 := aM hr0; have HC0 := aM hc0; clear hr0 hc0; have HB := aM (Below.refl w.heap.size w); have H := h; unfold lockagelaw09_MessagePrint.f at H; clear h; obtain ⟨⟨t1099, t1100, t1101, t1102, t1103, t1104⟩, A4, H⟩ := zc H; (try dsimp only at H); have HC5 := aM H; clear H
 go_enter Tryz.func7, Tryz.ntmps7
 go_upto_region 2 with (first | ((with_reducible refine gate_callee (f := 15) rfl ?_); refine goesL_ (some 16) rfl rfl Tryz.func15 (by kernel_rfl) rfl #[.slice A0 l0.length c0, .bool a2] rfl zL ?_; (with_reducible refine (lockagelaw06_Made.calls k _ _ l0 a2 t1099 t1100 t1101 t1102 t1103 t1104 _ ?side1 ?side2 A4.out).mono ?_); (case side1 => repeat (first | exact HR0.out | (with_reducible refine Kd.C_alloc ?_ _) | (with_reducible refine Kd.C_drewN ?_ _) | (with_reducible refine Kd.C_drew ?_))); (case side2 => exact HC0.out); rintro e w6 ⟨v1105, rfl, ho0, hb⟩; refine ⟨_, rfl, ?_⟩; have HO1106 := aM (Kd.R_lower ho0 (below_size zB)); replace HB := aM (below_step zB hb); clear hb ho0; obtain ⟨Ao7, co7, eo7⟩ := Kd.R_slice HO1106.out; subst eo7) | ((with_reducible refine gate_dst (N := 7) rfl ?_); (try (refine gate_guard (by rfl) ?_; dsimp only)); refine box_event ?hg (N := 7) ?hd (cs := #[.string (⟨#[]⟩ : ByteArray), .string (⟨#[]⟩ : ByteArray), .int .i64 0, .string (⟨#[]⟩ : ByteArray), .int .i64 0, .slice none 0 0, .string (⟨#[]⟩ : ByteArray)]) (t := 49) ?hr ?_; (case hd => rfl); (case hg => rfl); (case hr => exact zG); intro gb1107 hg w8 hbox hb; replace HO1106 := aM (Kd.R_below (zO HO1106.out) hb); have BK1107 := aM hbox; have GW1107 := aM (by rw [hg]; exact (below_size zB) : w.heap.size ≤ gb1107); replace HB := aM (below_step zB hb); have GE1107 := GW1107; clear hb hbox hg; obtain ⟨_, _, _, _, _, _, _, _, _, _, _, _, _, _⟩ := cz7 BK1107.out))
 (try simp only [Act.put, List.setIfInBounds_toArray, List.set_cons_zero, List.set_cons_succ])
 go_cut [26] (fun v26 wc => ∃ (kq : Nat) (x26_4 : Bool), v26 = .bool x26_4 ∧ Aside0 (lockagelaw09_MessagePrint.j0 kq x26_4 t1099 t1100 t1101 t1102 t1103 t1104 a1 = some r) ∧ Aside0 (kq ≤ k) ∧ Aside0 (Kd.R k40 40 wc w.heap.size (fun _ => True) (.slice Ao7 t1104.length co7) t1104) ∧ Aside0 (wc.heap[gb1107]? = some (.cells #[.string t1099, .string t1100, .int .i64 t1101, .string t1102, .int .i64 t1103, (.slice Ao7 t1104.length co7), .string a1] 49 (0, 0))) ∧ Aside0 (Below w.heap.size w wc))
 case first =>
  have H := HC5.out; clear HC5; by_cases c10 : (a1.size : Int) > 600
  ·rw [if_pos c10] at H; have c10b0 := decide_eq_true c10; have c10b1 : decide (600 < a1.size) = true := decide_eq_true (by omega); clear c10
   (first | rw [c10b0] | (simp only [i64_w, i32_w]; rw [c10b0]) | skip)
   have H' := aM H; clear H
   go_wp2
   go_meet
   case rel => exact ⟨_, (decide ((a1.size : Int) ≤ 4000)), zR, H', ⟨by first | omega | exact Nat.le_refl _⟩, ⟨by (with_reducible repeat (first | apply rA | apply rN | apply rD)); exact Kd.R_mono (Kd.R_far (p := ⟨gb1107, 6, none⟩) (Kd.R_far (p := ⟨gb1107, 5, none⟩) (Kd.R_far (p := ⟨gb1107, 4, none⟩) (Kd.R_far (p := ⟨gb1107, 3, none⟩) (Kd.R_far (p := ⟨gb1107, 2, none⟩) (Kd.R_far (p := ⟨gb1107, 1, none⟩) (Kd.R_far (p := ⟨gb1107, 0, none⟩) (Kd.R_types HO1106.out BK1107.out (by decide)) (fun _ hk => hk.2) (.string t1099)) (fun _ hk => hk.2) (.string t1100)) (fun _ hk => hk.2) (.int .i64 t1101)) (fun _ hk => hk.2) (.string t1102)) (fun _ hk => hk.2) (.int .i64 t1103)) (fun _ hk => hk.2) (.slice Ao7 t1104.length co7)) (fun _ hk => hk.2) (.string a1)) (fun _ hk => trivial)⟩, ⟨zQ7 BK1107.out⟩, ⟨zB⟩⟩
  ·rw [if_neg c10] at H; have c10b0 := decide_eq_false c10; have c10b1 : decide (600 < a1.size) = false := decide_eq_false (by omega); clear c10
   (first | rw [c10b0] | (simp only [i64_w, i32_w]; rw [c10b0]) | skip)
   have H' := aM H; clear H
   go_wp2
   go_meet
   case rel => exact ⟨_, (false), zR, H', ⟨by first | omega | exact Nat.le_refl _⟩, ⟨by (with_reducible repeat (first | apply rA | apply rN | apply rD)); exact Kd.R_mono (Kd.R_far (p := ⟨gb1107, 6, none⟩) (Kd.R_far (p := ⟨gb1107, 5, none⟩) (Kd.R_far (p := ⟨gb1107, 4, none⟩) (Kd.R_far (p := ⟨gb1107, 3, none⟩) (Kd.R_far (p := ⟨gb1107, 2, none⟩) (Kd.R_far (p := ⟨gb1107, 1, none⟩) (Kd.R_far (p := ⟨gb1107, 0, none⟩) (Kd.R_types HO1106.out BK1107.out (by decide)) (fun _ hk => hk.2) (.string t1099)) (fun _ hk => hk.2) (.string t1100)) (fun _ hk => hk.2) (.int .i64 t1101)) (fun _ hk => hk.2) (.string t1102)) (fun _ hk => hk.2) (.int .i64 t1103)) (fun _ hk => hk.2) (.slice Ao7 t1104.length co7)) (fun _ hk => hk.2) (.string a1)) (fun _ hk => trivial)⟩, ⟨zQ7 BK1107.out⟩, ⟨zB⟩⟩
 case rest =>
  clear HC5; (try clear c1); (try clear p2); (try clear c7); (try clear c10); (try clear c10b0); (try clear c10b1); obtain ⟨kq, x26_4, rfl, HA, HJ4, HO_1108005, BK1107, HB⟩ := hcut; cases kq with
  | zero => exact absurd HA.out (by simp [lockagelaw09_MessagePrint.j0])
  | succ kj4 =>
   have H := HA.out; clear HA; simp only [lockagelaw09_MessagePrint.j0] at H; by_cases c11 : x26_4 = true
   ·subst c11; rw [if_pos rfl] at H; replace H := Option.bind_eq_some_iff.mp H; obtain ⟨t1108, A120, H⟩ := H; replace H : (some t1108) = some r := H; have A12 := aM A120; clear A120; obtain rfl := Option.some.inj H
    go_wp2_with (first | ((with_reducible refine gate_callee (f := 11) rfl ?_); refine goesL_ (some 27) rfl rfl Tryz.func11 (by kernel_rfl) rfl #[] rfl zL ?_; (with_reducible refine (lockagelaw09_awake.calls kj4  t1108 _ ?side1 A12.out).mono ?_); (case side1 => exact glob_below HG_.out zB); rintro e w13 ⟨rfl, hb⟩; refine ⟨_, rfl, ?_⟩; replace HO_1108005 := aM (Kd.R_below (zO HO_1108005.out) hb); replace BK1107 := aM (zX BK1107.out hb); replace HB := aM (below_step zB hb); clear hb))
    go_ret
    exact ⟨zE, zB⟩
   ·replace c11 := Bool.eq_false_iff.mpr c11; subst c11; rw [if_neg (show ¬ (false = true) by decide)] at H; obtain ⟨y1109, hy1109, H⟩ := zb H; have Ny1109 := aM hy1109; clear hy1109; have H' := aM H; clear H
    go_wp2_with (first | ((with_reducible refine gate_dst (N := 28) rfl ?_); (try (refine gate_guard (by rfl) ?_; dsimp only)); refine Kd.R_lit Kd.bool _ 4 ?hg (N := 28) ?hd (xs := ([false, true] : List Bool)) (inner := [.bool false, .bool true]) (ok := fun _ => True) (okp := fun _ => True) ?hr ?hp (fun _ hk => hk) trivial (Below.refl _ _) (Nat.le_refl _) (by simp) ?_; (case hd => rfl); (case hg => rfl); (case hr => exact zG); (case hp => exact (Reps.one (show Kd.M Kd.bool _ _ _ false [.bool false] from rfl) (Reps.one (show Kd.M Kd.bool _ _ _ true [.bool true] from rfl) (Reps.none _ _)))); intro v1110 w14 ho15 hb hg_ hnew_; clear hg_ hnew_; (first | rw [← Ny1109.out] at ho15 | (simp only [Int.reduceToNat] at ho15; rw [← Ny1109.out] at ho15)); replace HO_1108005 := aM (Kd.R_below (zO HO_1108005.out) hb); have HO1111 := aM (Kd.R_lower ho15 (below_size zB)); replace BK1107 := aM (zX BK1107.out hb); replace HB := aM (below_step zB hb); clear hb ho15; obtain ⟨Ao16, co16, eo16⟩ := Kd.R_slice HO1111.out; subst eo16))
    go_loopg [30] kj4 (fun kq v30 w' => ∃ (x30_2 : Int), v30 = .int .i64 x30_2 ∧ Aside0 (lockagelaw09_MessagePrint.l0 kq y1109 (y1109.length : Int) x30_2 t1099 t1100 t1101 t1102 t1103 t1104 a1 = some r) ∧ Aside0 (kq ≤ kj4) ∧ Aside0 (Kd.R Kd.bool 4 w' w.heap.size (fun _ => True) (.slice Ao16 y1109.length co16) y1109) ∧ Aside0 (Kd.R k40 40 w' w.heap.size (fun _ => True) (.slice Ao7 t1104.length co7) t1104) ∧ Aside0 (w'.heap[gb1107]? = some (.cells #[.string t1099, .string t1100, .int .i64 t1101, .string t1102, .int .i64 t1103, (.slice Ao7 t1104.length co7), .string a1] 49 (0, 0))) ∧ Aside0 (Below w.heap.size w w'))
    case atStart => exact ⟨(0), zR, H', ⟨Nat.le_refl _⟩, ⟨zO HO1111.out⟩, ⟨zO HO_1108005.out⟩, ⟨zK BK1107.out⟩, ⟨zB⟩⟩
    case round =>
     clear H'; (try clear c1); (try clear p2); (try clear c7); (try clear c10); (try clear c10b0); (try clear c10b1); (try clear c11); (try clear c15); (try clear p2); obtain ⟨x30_2, rfl, HA, HK2, HO_28, HO_1108005, BK1107, HB⟩ := hrel; cases gk with
     | zero => exact absurd HA.out (by simp [lockagelaw09_MessagePrint.l0])
     | succ k2 =>
      have H := HA.out; clear HA; simp only [lockagelaw09_MessagePrint.l0] at H; by_cases c17 : x30_2 < (y1109.length : Int)
      ·rw [if_pos c17] at H; have c17b0 := decide_eq_true c17; clear c17; by_cases c18 : 0 ≤ x30_2
       ·rw [if_pos c18] at H; have c18b0 := decide_eq_true c18; clear c18; by_cases c19 : x30_2 < (y1109.length : Int)
        ·rw [if_pos c19] at H; have c19b0 := decide_eq_true c19; clear c19; obtain ⟨⟨t1114, t1115⟩, A20, H⟩ := zc H; (try dsimp only at H); obtain ⟨⟨t1116, t1117⟩, A21, H⟩ := zc H; (try dsimp only at H); by_cases c22 : t1114.toList = t1116.toList
         ·rw [if_pos c22] at H; obtain ⟨c22b0, c22b1⟩ := zd c22; clear c22; by_cases c23 : t1115 = t1117
          ·rw [if_pos c23] at H; obtain ⟨c23b0, c23b1⟩ := zd c23; clear c23; have H' := aM H; clear H; have p1113 : 0 ≤ (x30_2 : Int) := of_decide_eq_true zA; have q1113 : x30_2 < (y1109.length : Int) := of_decide_eq_true zA; obtain ⟨ad1113, e1113, hx1113_0⟩ := Kd.at_bool (Kd.R_reads' HO_28.out).2.2 x30_2 p1113 q1113; cases e1113; replace p1113 := eq_true p1113; replace q1113 := eq_true q1113; obtain ⟨_, _, _, _, _, _, _, _, _, _, _, _, _, _⟩ := cz7 BK1107.out
           go_wp2_with (first | ((with_reducible refine gate_callee (f := 17) rfl ?_); refine goesL_ (some 37) rfl rfl Tryz.func17 (by kernel_rfl) rfl #[.agg #[.string t1099, .string t1100, .int .i64 t1101, .string t1102, .int .i64 t1103, .slice Ao7 t1104.length co7, .string a1], .bool (rdOf false y1109 x30_2)] rfl zL ?_; (with_reducible refine (message_Print.calls k2 t1099 t1100 t1101 t1102 t1103 _ _ t1104 a1 (rdOf false y1109 x30_2) t1114 t1115 _ ?side1 ?side2 ?side3 A20.out).mono ?_); (case side1 => exact zC ((Kd.R_reads' HO_1108005.out).2.2)); (case side2 => exact (Kd.R_reads' HO_1108005.out).2.1); (case side3 => exact glob_below HG_.out zB); rintro e w25 ⟨rfl, hb⟩; refine ⟨_, rfl, ?_⟩; replace HO_28 := aM (Kd.R_below (zO HO_28.out) hb); replace HO_1108005 := aM (Kd.R_below (zO HO_1108005.out) hb); replace BK1107 := aM (zX BK1107.out hb); replace HB := aM (below_step zB hb); clear hb; obtain ⟨_, _, _, _, _, _, _, _, _, _, _, _, _, _⟩ := cz7 BK1107.out) | ((with_reducible refine gate_callee (f := 18) rfl ?_); refine goesL_ (some 43) rfl rfl Tryz.func18 (by kernel_rfl) rfl #[.agg #[.string t1099, .string t1100, .int .i64 t1101, .string t1102, .int .i64 t1103, .slice Ao7 t1104.length co7, .string a1], .bool (rdOf false y1109 x30_2)] rfl zL ?_; (with_reducible refine (lockageref09_Print.calls k2 t1099 t1100 t1101 t1102 t1103 _ _ t1104 a1 (rdOf false y1109 x30_2) t1116 t1117 _ ?side1 ?side2 A21.out).mono ?_); (case side1 => exact zC ((Kd.R_reads' HO_1108005.out).2.2)); (case side2 => exact (Kd.R_reads' HO_1108005.out).2.1); rintro e w27 ⟨rfl, hb⟩; refine ⟨_, rfl, ?_⟩; replace HO_28 := aM (Kd.R_below (zO HO_28.out) hb); replace HO_1108005 := aM (Kd.R_below (zO HO_1108005.out) hb); replace BK1107 := aM (zX BK1107.out hb); replace HB := aM (below_step zB hb); clear hb))
           go_roundg k2
           case measure => have := HJ4.out; have := HK2.out; omega
           case rel => exact ⟨(wrap64 (x30_2 + 1)), zR, H', ⟨by have := HJ4.out; have := HK2.out; omega⟩, ⟨zO HO_28.out⟩, ⟨zO HO_1108005.out⟩, ⟨zK BK1107.out⟩, ⟨zB⟩⟩
          ·exact zf c23 H
         ·exact zf c22 H
        ·exact zf c19 H
       ·exact zf c18 H
      ·rw [if_neg c17] at H; have c17b0 := decide_eq_false c17; clear c17; replace H := Option.bind_eq_some_iff.mp H; obtain ⟨t1112, A280, H⟩ := H; replace H : (some t1112) = some r := H; have A28 := aM A280; clear A280; obtain rfl := Option.some.inj H
       go_wp2_with (first | ((with_reducible refine gate_callee (f := 11) rfl ?_); refine goesL_ (some 55) rfl rfl Tryz.func11 (by kernel_rfl) rfl #[] rfl zL ?_; (with_reducible refine (lockagelaw09_awake.calls k2  t1112 _ ?side1 A28.out).mono ?_); (case side1 => exact glob_below HG_.out zB); rintro e w29 ⟨rfl, hb⟩; refine ⟨_, rfl, ?_⟩; replace HO_28 := aM (Kd.R_below (zO HO_28.out) hb); replace HO_1108005 := aM (Kd.R_below (zO HO_1108005.out) hb); replace BK1107 := aM (zX BK1107.out hb); replace HB := aM (below_step zB hb); clear hb))
       go_ret
       exact ⟨zE, zB⟩

def lockagelaw09_MessagePrint.Pure : Prop := ∀ (l0 : List Int) (a1 : ByteArray) (a2 : Bool), l0.length ≤ maxLen → l0.length * 1 ≤ 140737488351232 → (∀ x ∈ l0, (Lit.int .u8 x).wf = true) → a1.size ≤ 140737488351232 → ∃ k, lockagelaw09_MessagePrint.f k l0 a1 a2 = some true

end Go.Proofs.YtapeodbgobkjeaaGreatDoor.P
