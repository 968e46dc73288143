/- Printed by a program of the session out of the translation: plain Lean functions, each with the contract that the Go function computes it. -/
import Derived.Test.YtljppmpigijgaaaDoorPx0
import Derived.Test.YtljppmpigijgaaaDoorPx1
import Derived.Test.YtljppmpigijgaaaDoorPx5
import Derived.Test.YtljppmpigijgaaaDoorPx7
import Derived.Test.YtljppmpigijgaaaDoorPx8
import Derived.Test.YtljppmpigijgaaaDoorHK
namespace Go.Proofs.YtljppmpigijgaaaDoor.P
open Go.RowKit Go.Proofs.YtljppmpigijgaaaDoorW.PrintWords Go.Proofs.YtljppmpigijgaaaDoorW.PrintLast Go.Proofs.YtljppmpigijgaaaDoorW.PrintMore
attribute [local go_sem] max2_int min2_int max_two min_two max_three min_three max_four min_four   -- for this text's walks alone
set_option linter.unusedVariables false
set_option linter.unusedSimpArgs false

attribute [local go_sem high] eqA38
/-! ### lockagelaw07_FrameSafe: function 6 -/
def lockagelaw07_FrameSafe.j0 : Nat → Bool → Int → List ByteArray → List ByteArray → Bool → Int → Int → Option (Bool)
  | 0, _, _, _, _, _, _, _ => none
  | k + 1, x3, x6, x7, x8, x52, x316000, x316001 => if x52 = true then (if x3 = true then (some (x6 == 22)) else (some false)) else (if x6 = 0 then (if x3 = true then (if ((x316000 == 3) == ((x7.length : Int) == 1)) = true then (if ((x316000 == 2) == ((x8.length : Int) == 1)) = true then (if ((x316000 == 1) == ((wrap64 ((x7.length : Int) + (x8.length : Int))) == 0)) = true then (if x316001 ≥ 0 then (some (decide (x316001 ≤ 4000))) else (some false)) else (some false)) else (some false)) else (some false)) else (some false)) else (if x3 = true then (some (x316000 == 0 && (x316001 == 0))) else (some false)))
def lockagelaw07_FrameSafe.f (k : Nat) (l0 : List Int) : Option (Bool) := (lockagelaw07_awake.f k).bind fun t302 => (if t302 = true then ((lockagelaw06_Made.f k l0 false).bind fun bt303 => ((frame_Request.f k bt303.1 bt303.2.1 bt303.2.2.1 bt303.2.2.2.1 bt303.2.2.2.2.1 bt303.2.2.2.2.2).bind fun bt312 => ((lockageref05_Get.f k bt303.2.2.2.2.2 (⟨#[116, 114, 97, 110, 115, 102, 101, 114, 45, 101, 110, 99, 111, 100, 105, 110, 103]⟩ : ByteArray)).bind fun t316 => ((lockageref05_Get.f k bt303.2.2.2.2.2 (⟨#[99, 111, 110, 116, 101, 110, 116, 45, 108, 101, 110, 103, 116, 104]⟩ : ByteArray)).bind fun t319 => (if (t316.length : Int) > 0 then (if (t319.length : Int) > 0 then (lockagelaw07_FrameSafe.j0 k t302 bt312.2.2 t316 t319 true bt312.1 bt312.2.1) else (if (t316.length : Int) > 1 then (lockagelaw07_FrameSafe.j0 k t302 bt312.2.2 t316 t319 true bt312.1 bt312.2.1) else (if (t319.length : Int) > 1 then (lockagelaw07_FrameSafe.j0 k t302 bt312.2.2 t316 t319 true bt312.1 bt312.2.1) else (lockagelaw07_FrameSafe.j0 k t302 bt312.2.2 t316 t319 (bt303.2.2.2.2.1 == 0) bt312.1 bt312.2.1)))) else (if (t316.length : Int) > 1 then (lockagelaw07_FrameSafe.j0 k t302 bt312.2.2 t316 t319 true bt312.1 bt312.2.1) else (if (t319.length : Int) > 1 then (lockagelaw07_FrameSafe.j0 k t302 bt312.2.2 t316 t319 true bt312.1 bt312.2.1) else (lockagelaw07_FrameSafe.j0 k t302 bt312.2.2 t316 t319 false bt312.1 bt312.2.1)))))))) else (some false))
theorem lockagelaw07_FrameSafe.mono_l : ∀ k, (∀ y0 y1 y2 y3 y4 y5 y6, LeO (lockagelaw07_FrameSafe.j0 k y0 y1 y2 y3 y4 y5 y6) (lockagelaw07_FrameSafe.j0 (k + 1) y0 y1 y2 y3 y4 y5 y6))
  | 0 => fun _ _ _ _ _ _ _ r h => by simp [lockagelaw07_FrameSafe.j0] at h
  | k + 1 => by
    have ih0 := lockagelaw07_FrameSafe.mono_l k
    · intro y0 y1 y2 y3 y4 y5 y6
      unfold lockagelaw07_FrameSafe.j0
      repeat' first
      | (with_reducible exact ih0 _ _ _ _ _ _ _)
      | (with_reducible exact frame_Request.mono _ _ _ _ _ _ _)
      | (with_reducible exact lockagelaw06_Made.mono _ _ _)
      | (with_reducible exact lockagelaw07_awake.mono _)
      | (with_reducible exact lockageref05_Get.mono _ _ _)
      | (with_reducible exact LeO.refl _)
      | (with_reducible exact LeO.none _)
      | (with_reducible refine LeO.ite ?_ ?_)
      | (with_reducible refine LeO.bind ?_ (fun _ => ?_))
      | exact ih0 _ _ _ _ _ _ _
      | exact frame_Request.mono _ _ _ _ _ _ _
      | exact lockagelaw06_Made.mono _ _ _
      | exact lockagelaw07_awake.mono _
      | exact lockageref05_Get.mono _ _ _
      | exact LeO.none _
      | refine LeO.ite ?_ ?_
      | refine LeO.bind ?_ (fun _ => ?_)
theorem lockagelaw07_FrameSafe.mono : ∀ a0 k, LeO (lockagelaw07_FrameSafe.f k a0) (lockagelaw07_FrameSafe.f (k + 1) a0) := by
  intro a0 k
  have ih0 := lockagelaw07_FrameSafe.mono_l k
  unfold lockagelaw07_FrameSafe.f
  repeat' first
      | (with_reducible exact ih0 _ _ _ _ _ _ _)
      | (with_reducible exact frame_Request.mono _ _ _ _ _ _ _)
      | (with_reducible exact lockagelaw06_Made.mono _ _ _)
      | (with_reducible exact lockagelaw07_awake.mono _)
      | (with_reducible exact lockageref05_Get.mono _ _ _)
      | (with_reducible exact LeO.refl _)
      | (with_reducible exact LeO.none _)
      | (with_reducible refine LeO.ite ?_ ?_)
      | (with_reducible refine LeO.bind ?_ (fun _ => ?_))
      | exact ih0 _ _ _ _ _ _ _
      | exact frame_Request.mono _ _ _ _ _ _ _
      | exact lockagelaw06_Made.mono _ _ _
      | exact lockagelaw07_awake.mono _
      | exact lockageref05_Get.mono _ _ _
      | exact LeO.none _
      | refine LeO.ite ?_ ?_
      | refine LeO.bind ?_ (fun _ => ?_)
def lockagelaw07_FrameSafe.T6 : Bool × List (List Nat × List Nat) := (true, [([], []), ([0], [0]), ([1], [1]), ([], []), ([3], [3]), ([4, 2], [4]), ([2, 5, 0, 1, 2], [2]), ([5, 6, 0, 1, 2, 3, 4, 5, 6], [5])])
def lockagelaw07_FrameSafe.B6 : List Nat := [0, 1, 3, 0, 8, 31, 63, 127]
theorem lockagelaw07_FrameSafe.tab6 : rtab .any (opsOf Tryd.f6 6) = lockagelaw07_FrameSafe.T6 := by kernel_rfl
theorem lockagelaw07_FrameSafe.bits6 : waitsOk lockagelaw07_FrameSafe.T6.2 lockagelaw07_FrameSafe.B6 = true := by kernel_rfl
set_option maxHeartbeats 8000000 in
set_option maxRecDepth 100000 in
theorem lockagelaw07_FrameSafe.calls (k : Nat) (A0 : Option Addr) (c0 : Nat) (l0 : List Int) (r : Bool) (w : World) (hr0 : Kd.C (Kd.int .u8) w A0 l0.length l0) (hc0 : l0.length ≤ c0) (h : lockagelaw07_FrameSafe.f k l0 = some r) :
    Calls Tryd.prog 6 #[.slice A0 l0.length c0] w fun e w' => e = .returned (.bool r) ∧ Below w.heap.size w w' := by
  have hu25 := Tryd.underlying25
  have hu38 := Tryd.underlying38
  have HR0 := Aside0.mk hr0
  have HC0 := Aside0.mk hc0
  clear hr0 hc0
  have HB := Aside0.mk (Below.refl w.heap.size w)
  have H : ((lockagelaw07_awake.f k).bind fun t302 => (if t302 = true then ((lockagelaw06_Made.f k l0 false).bind fun bt303 => ((frame_Request.f k bt303.1 bt303.2.1 bt303.2.2.1 bt303.2.2.2.1 bt303.2.2.2.2.1 bt303.2.2.2.2.2).bind fun bt312 => ((lockageref05_Get.f k bt303.2.2.2.2.2 (⟨#[116, 114, 97, 110, 115, 102, 101, 114, 45, 101, 110, 99, 111, 100, 105, 110, 103]⟩ : ByteArray)).bind fun t316 => ((lockageref05_Get.f k bt303.2.2.2.2.2 (⟨#[99, 111, 110, 116, 101, 110, 116, 45, 108, 101, 110, 103, 116, 104]⟩ : ByteArray)).bind fun t319 => (if (t316.length : Int) > 0 then (if (t319.length : Int) > 0 then (lockagelaw07_FrameSafe.j0 k t302 bt312.2.2 t316 t319 true bt312.1 bt312.2.1) else (if (t316.length : Int) > 1 then (lockagelaw07_FrameSafe.j0 k t302 bt312.2.2 t316 t319 true bt312.1 bt312.2.1) else (if (t319.length : Int) > 1 then (lockagelaw07_FrameSafe.j0 k t302 bt312.2.2 t316 t319 true bt312.1 bt312.2.1) else (lockagelaw07_FrameSafe.j0 k t302 bt312.2.2 t316 t319 (bt303.2.2.2.2.1 == 0) bt312.1 bt312.2.1)))) else (if (t316.length : Int) > 1 then (lockagelaw07_FrameSafe.j0 k t302 bt312.2.2 t316 t319 true bt312.1 bt312.2.1) else (if (t319.length : Int) > 1 then (lockagelaw07_FrameSafe.j0 k t302 bt312.2.2 t316 t319 true bt312.1 bt312.2.1) else (lockagelaw07_FrameSafe.j0 k t302 bt312.2.2 t316 t319 false bt312.1 bt312.2.1)))))))) else (some false))) = some r := h
  clear h
  replace H := Option.bind_eq_some_iff.mp H
  obtain ⟨t302, A20, H⟩ := H
  replace H : (if t302 = true then ((lockagelaw06_Made.f k l0 false).bind fun bt303 => ((frame_Request.f k bt303.1 bt303.2.1 bt303.2.2.1 bt303.2.2.2.1 bt303.2.2.2.2.1 bt303.2.2.2.2.2).bind fun bt312 => ((lockageref05_Get.f k bt303.2.2.2.2.2 (⟨#[116, 114, 97, 110, 115, 102, 101, 114, 45, 101, 110, 99, 111, 100, 105, 110, 103]⟩ : ByteArray)).bind fun t316 => ((lockageref05_Get.f k bt303.2.2.2.2.2 (⟨#[99, 111, 110, 116, 101, 110, 116, 45, 108, 101, 110, 103, 116, 104]⟩ : ByteArray)).bind fun t319 => (if (t316.length : Int) > 0 then (if (t319.length : Int) > 0 then (lockagelaw07_FrameSafe.j0 k t302 bt312.2.2 t316 t319 true bt312.1 bt312.2.1) else (if (t316.length : Int) > 1 then (lockagelaw07_FrameSafe.j0 k t302 bt312.2.2 t316 t319 true bt312.1 bt312.2.1) else (if (t319.length : Int) > 1 then (lockagelaw07_FrameSafe.j0 k t302 bt312.2.2 t316 t319 true bt312.1 bt312.2.1) else (lockagelaw07_FrameSafe.j0 k t302 bt312.2.2 t316 t319 (bt303.2.2.2.2.1 == 0) bt312.1 bt312.2.1)))) else (if (t316.length : Int) > 1 then (lockagelaw07_FrameSafe.j0 k t302 bt312.2.2 t316 t319 true bt312.1 bt312.2.1) else (if (t319.length : Int) > 1 then (lockagelaw07_FrameSafe.j0 k t302 bt312.2.2 t316 t319 true bt312.1 bt312.2.1) else (lockagelaw07_FrameSafe.j0 k t302 bt312.2.2 t316 t319 false bt312.1 bt312.2.1)))))))) else (some false)) = some r := H
  have A2 := Aside0.mk A20
  clear A20
  by_cases c3 : t302 = true
  · subst c3
    have H1 : ((lockagelaw06_Made.f k l0 false).bind fun bt303 => ((frame_Request.f k bt303.1 bt303.2.1 bt303.2.2.1 bt303.2.2.2.1 bt303.2.2.2.2.1 bt303.2.2.2.2.2).bind fun bt312 => ((lockageref05_Get.f k bt303.2.2.2.2.2 (⟨#[116, 114, 97, 110, 115, 102, 101, 114, 45, 101, 110, 99, 111, 100, 105, 110, 103]⟩ : ByteArray)).bind fun t316 => ((lockageref05_Get.f k bt303.2.2.2.2.2 (⟨#[99, 111, 110, 116, 101, 110, 116, 45, 108, 101, 110, 103, 116, 104]⟩ : ByteArray)).bind fun t319 => (if (t316.length : Int) > 0 then (if (t319.length : Int) > 0 then (lockagelaw07_FrameSafe.j0 k true bt312.2.2 t316 t319 true bt312.1 bt312.2.1) else (if (t316.length : Int) > 1 then (lockagelaw07_FrameSafe.j0 k true bt312.2.2 t316 t319 true bt312.1 bt312.2.1) else (if (t319.length : Int) > 1 then (lockagelaw07_FrameSafe.j0 k true bt312.2.2 t316 t319 true bt312.1 bt312.2.1) else (lockagelaw07_FrameSafe.j0 k true bt312.2.2 t316 t319 (bt303.2.2.2.2.1 == 0) bt312.1 bt312.2.1)))) else (if (t316.length : Int) > 1 then (lockagelaw07_FrameSafe.j0 k true bt312.2.2 t316 t319 true bt312.1 bt312.2.1) else (if (t319.length : Int) > 1 then (lockagelaw07_FrameSafe.j0 k true bt312.2.2 t316 t319 true bt312.1 bt312.2.1) else (lockagelaw07_FrameSafe.j0 k true bt312.2.2 t316 t319 false bt312.1 bt312.2.1)))))))) = some r := by rw [if_pos rfl] at H; exact H
    clear H
    have H := H1
    clear H1
    replace H := Option.bind_eq_some_iff.mp H
    obtain ⟨⟨t303, t304, t305, t306, t307, t308⟩, A40, H⟩ := H
    replace H : ((frame_Request.f k t303 t304 t305 t306 t307 t308).bind fun bt312 => ((lockageref05_Get.f k t308 (⟨#[116, 114, 97, 110, 115, 102, 101, 114, 45, 101, 110, 99, 111, 100, 105, 110, 103]⟩ : ByteArray)).bind fun t316 => ((lockageref05_Get.f k t308 (⟨#[99, 111, 110, 116, 101, 110, 116, 45, 108, 101, 110, 103, 116, 104]⟩ : ByteArray)).bind fun t319 => (if (t316.length : Int) > 0 then (if (t319.length : Int) > 0 then (lockagelaw07_FrameSafe.j0 k true bt312.2.2 t316 t319 true bt312.1 bt312.2.1) else (if (t316.length : Int) > 1 then (lockagelaw07_FrameSafe.j0 k true bt312.2.2 t316 t319 true bt312.1 bt312.2.1) else (if (t319.length : Int) > 1 then (lockagelaw07_FrameSafe.j0 k true bt312.2.2 t316 t319 true bt312.1 bt312.2.1) else (lockagelaw07_FrameSafe.j0 k true bt312.2.2 t316 t319 (t307 == 0) bt312.1 bt312.2.1)))) else (if (t316.length : Int) > 1 then (lockagelaw07_FrameSafe.j0 k true bt312.2.2 t316 t319 true bt312.1 bt312.2.1) else (if (t319.length : Int) > 1 then (lockagelaw07_FrameSafe.j0 k true bt312.2.2 t316 t319 true bt312.1 bt312.2.1) else (lockagelaw07_FrameSafe.j0 k true bt312.2.2 t316 t319 false bt312.1 bt312.2.1))))))) = some r := H
    have A4 := Aside0.mk A40
    clear A40
    replace H := Option.bind_eq_some_iff.mp H
    obtain ⟨⟨t312, t313, t314⟩, A50, H⟩ := H
    replace H : ((lockageref05_Get.f k t308 (⟨#[116, 114, 97, 110, 115, 102, 101, 114, 45, 101, 110, 99, 111, 100, 105, 110, 103]⟩ : ByteArray)).bind fun t316 => ((lockageref05_Get.f k t308 (⟨#[99, 111, 110, 116, 101, 110, 116, 45, 108, 101, 110, 103, 116, 104]⟩ : ByteArray)).bind fun t319 => (if (t316.length : Int) > 0 then (if (t319.length : Int) > 0 then (lockagelaw07_FrameSafe.j0 k true t314 t316 t319 true t312 t313) else (if (t316.length : Int) > 1 then (lockagelaw07_FrameSafe.j0 k true t314 t316 t319 true t312 t313) else (if (t319.length : Int) > 1 then (lockagelaw07_FrameSafe.j0 k true t314 t316 t319 true t312 t313) else (lockagelaw07_FrameSafe.j0 k true t314 t316 t319 (t307 == 0) t312 t313)))) else (if (t316.length : Int) > 1 then (lockagelaw07_FrameSafe.j0 k true t314 t316 t319 true t312 t313) else (if (t319.length : Int) > 1 then (lockagelaw07_FrameSafe.j0 k true t314 t316 t319 true t312 t313) else (lockagelaw07_FrameSafe.j0 k true t314 t316 t319 false t312 t313)))))) = some r := H
    have A5 := Aside0.mk A50
    clear A50
    replace H := Option.bind_eq_some_iff.mp H
    obtain ⟨t316, A60, H⟩ := H
    replace H : ((lockageref05_Get.f k t308 (⟨#[99, 111, 110, 116, 101, 110, 116, 45, 108, 101, 110, 103, 116, 104]⟩ : ByteArray)).bind fun t319 => (if (t316.length : Int) > 0 then (if (t319.length : Int) > 0 then (lockagelaw07_FrameSafe.j0 k true t314 t316 t319 true t312 t313) else (if (t316.length : Int) > 1 then (lockagelaw07_FrameSafe.j0 k true t314 t316 t319 true t312 t313) else (if (t319.length : Int) > 1 then (lockagelaw07_FrameSafe.j0 k true t314 t316 t319 true t312 t313) else (lockagelaw07_FrameSafe.j0 k true t314 t316 t319 (t307 == 0) t312 t313)))) else (if (t316.length : Int) > 1 then (lockagelaw07_FrameSafe.j0 k true t314 t316 t319 true t312 t313) else (if (t319.length : Int) > 1 then (lockagelaw07_FrameSafe.j0 k true t314 t316 t319 true t312 t313) else (lockagelaw07_FrameSafe.j0 k true t314 t316 t319 false t312 t313))))) = some r := H
    have A6 := Aside0.mk A60
    clear A60
    replace H := Option.bind_eq_some_iff.mp H
    obtain ⟨t319, A70, H⟩ := H
    replace H : (if (t316.length : Int) > 0 then (if (t319.length : Int) > 0 then (lockagelaw07_FrameSafe.j0 k true t314 t316 t319 true t312 t313) else (if (t316.length : Int) > 1 then (lockagelaw07_FrameSafe.j0 k true t314 t316 t319 true t312 t313) else (if (t319.length : Int) > 1 then (lockagelaw07_FrameSafe.j0 k true t314 t316 t319 true t312 t313) else (lockagelaw07_FrameSafe.j0 k true t314 t316 t319 (t307 == 0) t312 t313)))) else (if (t316.length : Int) > 1 then (lockagelaw07_FrameSafe.j0 k true t314 t316 t319 true t312 t313) else (if (t319.length : Int) > 1 then (lockagelaw07_FrameSafe.j0 k true t314 t316 t319 true t312 t313) else (lockagelaw07_FrameSafe.j0 k true t314 t316 t319 false t312 t313)))) = some r := H
    have A7 := Aside0.mk A70
    clear A70
    have HC8 := Aside0.mk H
    clear H
    go_enter Tryd.func6, Tryd.ntmps6
    try go_wp2_with (first | ((with_reducible refine gate_callee (f := 10) rfl ?_); refine goesL_ (some 9) rfl rfl Tryd.func10 (by kernel_rfl) rfl #[] rfl (by (try simp only [List.map_toArray, List.map_cons, List.map_nil]); first | done | rfl | (simp only [List.length_drop, List.length_take]; rfl)) ?_; (with_reducible refine (lockagelaw07_awake.calls k  true _ A2.out).mono ?_); rintro e w9 ⟨rfl, hb⟩; refine ⟨_, rfl, ?_⟩; have n0_ := Aside0.mk (below_step (by repeat (first | (with_reducible first | exact HB.out | apply below_alloc | apply pw_below_drewN | apply below_drew1) | exact HB.out)) hb); clear HB; have HB := n0_; clear n0_; (try clear hb); (try clear hb2); (try clear hk); (try clear hi)) | ((with_reducible refine gate_callee (f := 8) rfl ?_); refine goesL_ (some 13) rfl rfl Tryd.func8 (by kernel_rfl) rfl #[.slice A0 l0.length c0, .bool false] rfl (by (try simp only [List.map_toArray, List.map_cons, List.map_nil]); first | done | rfl | (simp only [List.length_drop, List.length_take]; rfl)) ?_; (with_reducible refine (lockagelaw06_Made.calls k _ _ l0 false t303 t304 t305 t306 t307 t308 _ ?side1 ?side2 A4.out).mono ?_); (case side1 => repeat (first | exact (Kd.C_below HR0.out HB.out) | (with_reducible refine Kd.C_alloc ?_ _) | (with_reducible refine Kd.C_drewN ?_ _) | (with_reducible refine Kd.C_drew ?_))); (case side2 => exact HC0.out); rintro e w10 ⟨v309, rfl, ho0, hb⟩; refine ⟨_, rfl, ?_⟩; have n0_ := Aside0.mk (Kd.R_lower ho0 (below_size (by repeat (first | (with_reducible first | exact HB.out | apply below_alloc | apply pw_below_drewN | apply below_drew1) | exact HB.out)))); have n1_ := Aside0.mk (below_step (by repeat (first | (with_reducible first | exact HB.out | apply below_alloc | apply pw_below_drewN | apply below_drew1) | exact HB.out)) hb); clear HB; have HO310 := n0_; have HB := n1_; clear n0_ n1_; (try clear hb); (try clear hb2); (try clear hk); (try clear hi); (try clear ho0)) | ((with_reducible refine gate_dst (N := 4) rfl ?_); (try (refine gate_guard (by rfl) ?_; dsimp only)); refine box_event ?hg (N := 4) ?hd (cs := #[.string (⟨#[]⟩ : ByteArray), .string (⟨#[]⟩ : ByteArray), .int .i64 0, .string (⟨#[]⟩ : ByteArray), .int .i64 0, .slice none 0 0]) (t := 25) ?hr ?_; (case hd => rfl); (case hg => rfl); (case hr => first | (go_simp; done) | (go_simp; rfl)); intro gb311 hg w11 hbox hb; have n0_ := Aside0.mk (Kd.R_below (by (with_reducible repeat (first | apply Kd.R_alloc | apply Kd.R_drewN | apply Kd.R_drew)); exact HO310.out) hb); have n1_ := Aside0.mk (below_step (by repeat (first | (with_reducible first | exact HB.out | apply below_alloc | apply pw_below_drewN | apply below_drew1) | exact HB.out)) hb); have n2_ := Aside0.mk (hbox); have n3_ := Aside0.mk ((by rw [hg]; exact (below_size (by repeat (first | (with_reducible first | exact HB.out | apply below_alloc | apply pw_below_drewN | apply below_drew1) | exact HB.out))) : w.heap.size ≤ gb311)); have n4_ := Aside0.mk ((by rw [hg]; exact (below_size (by repeat (first | (with_reducible first | exact HB.out | apply below_alloc | apply pw_below_drewN | apply below_drew1) | exact HB.out))) : w.heap.size ≤ gb311)); clear HO310; clear HB; have HO310 := n0_; have HB := n1_; have BK311 := n2_; have GW311 := n3_; have GE311 := n4_; clear n0_ n1_ n2_ n3_ n4_; clear hb hbox hg; have hcz12_0 : w11.cell? ⟨gb311, 0, none⟩ = some (.string (⟨#[]⟩ : ByteArray)) := (blk_cell BK311.out 0).trans rfl; have hcz12_1 : w11.cell? ⟨gb311, 1, none⟩ = some (.string (⟨#[]⟩ : ByteArray)) := (blk_cell BK311.out 1).trans rfl; have hcz12_2 : w11.cell? ⟨gb311, 2, none⟩ = some (.int .i64 0) := (blk_cell BK311.out 2).trans rfl; have hcz12_3 : w11.cell? ⟨gb311, 3, none⟩ = some (.string (⟨#[]⟩ : ByteArray)) := (blk_cell BK311.out 3).trans rfl; have hcz12_4 : w11.cell? ⟨gb311, 4, none⟩ = some (.int .i64 0) := (blk_cell BK311.out 4).trans rfl; have hcz12_5 : w11.cell? ⟨gb311, 5, none⟩ = some (.slice none 0 0) := (blk_cell BK311.out 5).trans rfl; have hfz12_0 := blk_frozen BK311.out 0; have hfz12_1 := blk_frozen BK311.out 1; have hfz12_2 := blk_frozen BK311.out 2; have hfz12_3 := blk_frozen BK311.out 3; have hfz12_4 := blk_frozen BK311.out 4; have hfz12_5 := blk_frozen BK311.out 5; obtain ⟨Ao13, co13, eo13⟩ := Kd.R_slice HO310.out; subst eo13) | ((with_reducible refine gate_callee (f := 12) rfl ?_); refine goesL_ (some 16) rfl rfl Tryd.func12 (by kernel_rfl) rfl #[.agg #[.string t303, .string t304, .int .i64 t305, .string t306, .int .i64 t307, .slice Ao13 t308.length co13]] rfl (by (try simp only [List.map_toArray, List.map_cons, List.map_nil]); first | done | rfl | (simp only [List.length_drop, List.length_take]; rfl)) ?_; (with_reducible refine (frame_Request.calls k t303 t304 t305 t306 t307 _ _ t308 t312 t313 t314 _ ?side1 ?side2 A5.out).mono ?_); (case side1 => refine (Kd.R_reads' (e := 32) (base := w.heap.size) (ok := fun k_ => True) (n := t308.length) (c := co13) ?_).2.2; exact (by (with_reducible repeat (first | apply Kd.R_alloc | apply Kd.R_drewN | apply Kd.R_drew)); exact (Kd.R_mono (Kd.R_far (p := ⟨gb311, 5, none⟩) (Kd.R_far (p := ⟨gb311, 4, none⟩) (Kd.R_far (p := ⟨gb311, 3, none⟩) (Kd.R_far (p := ⟨gb311, 2, none⟩) (Kd.R_far (p := ⟨gb311, 1, none⟩) (Kd.R_far (p := ⟨gb311, 0, none⟩) (Kd.R_types HO310.out BK311.out (by decide)) (fun _ hk => hk.2) (.string t303)) (fun _ hk => hk.2) (.string t304)) (fun _ hk => hk.2) (.int .i64 t305)) (fun _ hk => hk.2) (.string t306)) (fun _ hk => hk.2) (.int .i64 t307)) (fun _ hk => hk.2) (.slice Ao13 t308.length co13)) (fun _ h_ => h_.1)))); (case side2 => exact (Kd.R_reads' HO310.out).2.1); rintro e w14 ⟨rfl, hb⟩; refine ⟨_, rfl, ?_⟩; have n0_ := Aside0.mk (Kd.R_below (by (with_reducible repeat (first | apply Kd.R_alloc | apply Kd.R_drewN | apply Kd.R_drew)); exact (Kd.R_mono (Kd.R_far (p := ⟨gb311, 5, none⟩) (Kd.R_far (p := ⟨gb311, 4, none⟩) (Kd.R_far (p := ⟨gb311, 3, none⟩) (Kd.R_far (p := ⟨gb311, 2, none⟩) (Kd.R_far (p := ⟨gb311, 1, none⟩) (Kd.R_far (p := ⟨gb311, 0, none⟩) (Kd.R_types HO310.out BK311.out (by decide)) (fun _ hk => hk.2) (.string t303)) (fun _ hk => hk.2) (.string t304)) (fun _ hk => hk.2) (.int .i64 t305)) (fun _ hk => hk.2) (.string t306)) (fun _ hk => hk.2) (.int .i64 t307)) (fun _ hk => hk.2) (.slice Ao13 t308.length co13)) (fun _ h_ => h_.1))) hb); have n1_ := Aside0.mk (blk_below (g := gb311) (o := .cells #[.string t303, .string t304, .int .i64 t305, .string t306, .int .i64 t307, .slice Ao13 t308.length co13] 25 (0, 0)) (by (with_reducible repeat (first | refine blk_drewN ?_ _ | refine blk_drew ?_ | refine blk_alloc ?_ _)); refine blk_put (cs := #[.string t303, .string t304, .int .i64 t305, .string t306, .int .i64 t307, .slice none 0 0]) ?_ 5 _ rfl; (with_reducible repeat (first | refine blk_drewN ?_ _ | refine blk_drew ?_ | refine blk_alloc ?_ _)); refine blk_put (cs := #[.string t303, .string t304, .int .i64 t305, .string t306, .int .i64 0, .slice none 0 0]) ?_ 4 _ rfl; (with_reducible repeat (first | refine blk_drewN ?_ _ | refine blk_drew ?_ | refine blk_alloc ?_ _)); refine blk_put (cs := #[.string t303, .string t304, .int .i64 t305, .string (⟨#[]⟩ : ByteArray), .int .i64 0, .slice none 0 0]) ?_ 3 _ rfl; (with_reducible repeat (first | refine blk_drewN ?_ _ | refine blk_drew ?_ | refine blk_alloc ?_ _)); refine blk_put (cs := #[.string t303, .string t304, .int .i64 0, .string (⟨#[]⟩ : ByteArray), .int .i64 0, .slice none 0 0]) ?_ 2 _ rfl; (with_reducible repeat (first | refine blk_drewN ?_ _ | refine blk_drew ?_ | refine blk_alloc ?_ _)); refine blk_put (cs := #[.string t303, .string (⟨#[]⟩ : ByteArray), .int .i64 0, .string (⟨#[]⟩ : ByteArray), .int .i64 0, .slice none 0 0]) ?_ 1 _ rfl; (with_reducible repeat (first | refine blk_drewN ?_ _ | refine blk_drew ?_ | refine blk_alloc ?_ _)); refine blk_put (cs := #[.string (⟨#[]⟩ : ByteArray), .string (⟨#[]⟩ : ByteArray), .int .i64 0, .string (⟨#[]⟩ : ByteArray), .int .i64 0, .slice none 0 0]) ?_ 0 _ rfl; (with_reducible repeat (first | refine blk_drewN ?_ _ | refine blk_drew ?_ | refine blk_alloc ?_ _)); exact BK311.out) hb); have n2_ := Aside0.mk (below_step (by repeat (first | (with_reducible first | exact HB.out | apply below_alloc | apply pw_below_drewN | apply below_drew1 | refine below_set ?_ GE311.out) | exact HB.out)) hb); clear HO310; clear BK311; clear HB; have HO310 := n0_; have BK311 := n1_; have HB := n2_; clear n0_ n1_ n2_; (try clear hb); (try clear hb2); (try clear hk); (try clear hi)) | ((with_reducible refine gate_dst (N := 5) rfl ?_); (try (refine gate_guard (by rfl) ?_; dsimp only)); refine box_event ?hg (N := 5) ?hd (cs := #[.int .i64 0, .int .i64 0]) (t := 38) ?hr ?_; (case hd => rfl); (case hg => rfl); (case hr => first | (go_simp; done) | (go_simp; rfl)); intro gb315 hg w15 hbox hb; have n0_ := Aside0.mk (Kd.R_below (by (with_reducible repeat (first | apply Kd.R_alloc | apply Kd.R_drewN | apply Kd.R_drew)); exact HO310.out) hb); have n1_ := Aside0.mk (blk_below (g := gb311) (o := .cells #[.string t303, .string t304, .int .i64 t305, .string t306, .int .i64 t307, .slice Ao13 t308.length co13] 25 (0, 0)) (by (with_reducible repeat (first | refine blk_drewN ?_ _ | refine blk_drew ?_ | refine blk_alloc ?_ _)); exact BK311.out) hb); have n2_ := Aside0.mk (below_step (by repeat (first | (with_reducible first | exact HB.out | apply below_alloc | apply pw_below_drewN | apply below_drew1 | refine below_set ?_ GE311.out) | exact HB.out)) hb); have n3_ := Aside0.mk (hbox); have n4_ := Aside0.mk ((by rw [hg]; exact (below_size (by repeat (first | (with_reducible first | exact HB.out | apply below_alloc | apply pw_below_drewN | apply below_drew1 | refine below_set ?_ GE311.out) | exact HB.out))) : w.heap.size ≤ gb315)); have n5_ := Aside0.mk ((by rw [hg]; exact (below_size (by repeat (first | (with_reducible first | exact HB.out | apply below_alloc | apply pw_below_drewN | apply below_drew1 | refine below_set ?_ GE311.out) | exact HB.out))) : w.heap.size ≤ gb315)); have n6_ := Aside0.mk ((by rw [hg]; exact Nat.ne_of_lt (blk_lt (g := gb311) (o := .cells #[.string t303, .string t304, .int .i64 t305, .string t306, .int .i64 t307, .slice Ao13 t308.length co13] 25 (0, 0)) (by (with_reducible repeat (first | refine blk_drewN ?_ _ | refine blk_drew ?_ | refine blk_alloc ?_ _)); exact BK311.out)) : gb311 ≠ gb315)); have n7_ := Aside0.mk ((by rw [hg]; exact Nat.ne_of_gt (blk_lt (g := gb311) (o := .cells #[.string t303, .string t304, .int .i64 t305, .string t306, .int .i64 t307, .slice Ao13 t308.length co13] 25 (0, 0)) (by (with_reducible repeat (first | refine blk_drewN ?_ _ | refine blk_drew ?_ | refine blk_alloc ?_ _)); exact BK311.out)) : gb315 ≠ gb311)); clear HO310; clear BK311; clear HB; have HO310 := n0_; have BK311 := n1_; have HB := n2_; have BK315 := n3_; have GW315 := n4_; have GE315 := n5_; have NB311_315 := n6_; have NB315_311 := n7_; clear n0_ n1_ n2_ n3_ n4_ n5_ n6_ n7_; clear hb hbox hg; have hnb16 := NB315_311.out; have hnc16 := NB311_315.out; have hcz17_0 : w15.cell? ⟨gb315, 0, none⟩ = some (.int .i64 0) := (blk_cell BK315.out 0).trans rfl; have hcz17_1 : w15.cell? ⟨gb315, 1, none⟩ = some (.int .i64 0) := (blk_cell BK315.out 1).trans rfl; have hfz17_0 := blk_frozen BK315.out 0; have hfz17_1 := blk_frozen BK315.out 1))
    have n0_ : Aside0 (Kd.R k32 32 ((w15.setCell ⟨gb315, 0, none⟩ (.int .i64 t312)).setCell ⟨gb315, 1, none⟩ (.int .i64 t313)) w.heap.size (fun _ => True) (.slice Ao13 t308.length co13) t308) := ⟨by (with_reducible repeat (first | apply Kd.R_alloc | apply Kd.R_drewN | apply Kd.R_drew)); exact Kd.R_mono (Kd.R_far (p := ⟨gb315, 1, none⟩) (Kd.R_far (p := ⟨gb315, 0, none⟩) (Kd.R_types HO310.out BK315.out (by decide)) (fun _ hk => hk.2) (.int .i64 t312)) (fun _ hk => hk.2) (.int .i64 t313)) (fun _ hk => trivial)⟩
    have n1_ : Aside0 (((w15.setCell ⟨gb315, 0, none⟩ (.int .i64 t312)).setCell ⟨gb315, 1, none⟩ (.int .i64 t313)).heap[gb311]? = some (.cells #[.string t303, .string t304, .int .i64 t305, .string t306, .int .i64 t307, .slice Ao13 t308.length co13] 25 (0, 0))) := ⟨by (with_reducible repeat (first | refine blk_drewN ?_ _ | refine blk_drew ?_ | refine blk_alloc ?_ _)); refine blk_far ?_ NB311_315.out _; (with_reducible repeat (first | refine blk_drewN ?_ _ | refine blk_drew ?_ | refine blk_alloc ?_ _)); refine blk_far ?_ NB311_315.out _; (with_reducible repeat (first | refine blk_drewN ?_ _ | refine blk_drew ?_ | refine blk_alloc ?_ _)); exact BK311.out⟩
    have n2_ : Aside0 (((w15.setCell ⟨gb315, 0, none⟩ (.int .i64 t312)).setCell ⟨gb315, 1, none⟩ (.int .i64 t313)).heap[gb315]? = some (.cells #[.int .i64 t312, .int .i64 t313] 38 (0, 0))) := ⟨by (with_reducible repeat (first | refine blk_drewN ?_ _ | refine blk_drew ?_ | refine blk_alloc ?_ _)); refine blk_put (cs := #[.int .i64 t312, .int .i64 0]) ?_ 1 _ rfl; (with_reducible repeat (first | refine blk_drewN ?_ _ | refine blk_drew ?_ | refine blk_alloc ?_ _)); refine blk_put (cs := #[.int .i64 0, .int .i64 0]) ?_ 0 _ rfl; (with_reducible repeat (first | refine blk_drewN ?_ _ | refine blk_drew ?_ | refine blk_alloc ?_ _)); exact BK315.out⟩
    have n3_ : Aside0 (Below w.heap.size w ((w15.setCell ⟨gb315, 0, none⟩ (.int .i64 t312)).setCell ⟨gb315, 1, none⟩ (.int .i64 t313))) := ⟨by repeat (first | (with_reducible first | exact HB.out | apply below_alloc | apply pw_below_drewN | apply below_drew1 | refine below_set ?_ GE311.out | refine below_set ?_ GE315.out) | exact HB.out)⟩
    (try clear HO310)
    (try clear BK311)
    (try clear BK315)
    (try clear HB)
    generalize ((w15.setCell ⟨gb315, 0, none⟩ (.int .i64 t312)).setCell ⟨gb315, 1, none⟩ (.int .i64 t313)) = w18 at n0_ n1_ n2_ n3_ ⊢
    have HO310 := n0_
    have BK311 := n1_
    have BK315 := n2_
    have HB := n3_
    clear n0_ n1_ n2_ n3_
    have n0_ := Aside0.mk (Kd.R_drew HO310.out)
    have n1_ := Aside0.mk (blk_drew BK311.out)
    have n2_ := Aside0.mk (blk_drew BK315.out)
    have n3_ := Aside0.mk (below_drew1 HB.out)
    clear HO310
    clear BK311
    clear BK315
    clear HB
    have HO310 := n0_
    have BK311 := n1_
    have BK315 := n2_
    have HB := n3_
    clear n0_ n1_ n2_ n3_
    refine start_ (n := 8) (S := fun w' => w'.cell? ⟨gb311, 0, none⟩ = some (.string t303) ∧ w'.cell? ⟨gb311, 1, none⟩ = some (.string t304) ∧ w'.cell? ⟨gb311, 2, none⟩ = some (.int .i64 t305) ∧ w'.cell? ⟨gb311, 3, none⟩ = some (.string t306) ∧ w'.cell? ⟨gb311, 4, none⟩ = some (.int .i64 t307) ∧ w'.cell? ⟨gb311, 5, none⟩ = some (.slice Ao13 t308.length co13)) (ds := []) #[false, false, false, false, false, false, false, false] (by kernel_rfl) rfl rfl ⟨(blk_cell BK311.out 0).trans rfl, (blk_cell BK311.out 1).trans rfl, (blk_cell BK311.out 2).trans rfl, (blk_cell BK311.out 3).trans rfl, (blk_cell BK311.out 4).trans rfl, (blk_cell BK311.out 5).trans rfl⟩ (fun hHeld => ?_); refine with_tabW lockagelaw07_FrameSafe.tab6 lockagelaw07_FrameSafe.bits6 (fun HT_ HW_ => ?_)
    generalize w18.drew = w19 at HO310 BK311 BK315 HB hHeld ⊢
    refine pure_ (i := 0) (N := some 19) (v := ?_) (a' := ?_) #[true, false, false, false, false, false, false, false] rfl rfl (any_of HT_.out (by kernel_rfl)) (fun _ _ _ h => h) (Or.inl ⟨by rfl, ?_⟩) ?_ ?_
    rotate_left
    · intro w'
      go_simp
      with_reducible rfl
    rotate_left
    · simp only [Act.put, List.setIfInBounds_toArray, List.set_cons_zero, List.set_cons_succ, i64_w, i32_w]
      rfl
    refine pure_ (i := 3) (N := some 22) (v := ?_) (a' := ?_) #[true, false, false, true, false, false, false, false] rfl rfl (any_of HT_.out (by kernel_rfl)) (fun _ _ _ h => h) (Or.inl ⟨by rfl, ?_⟩) ?_ ?_
    rotate_left
    · intro w'
      go_simp
      with_reducible rfl
    rotate_left
    · simp only [Act.put, List.setIfInBounds_toArray, List.set_cons_zero, List.set_cons_succ, i64_w, i32_w]
      rfl
    refine take_ (i := 1) (N := some 20) (v := ?_) (a' := ?_) #[true, true, false, true, false, false, false, false] rfl rfl (take_ofW HT_.out HW_.out (by kernel_rfl)) (fun _ _ _ h => h) (Or.inl ⟨by rfl, ?_⟩) hHeld ?_ ?_
    rotate_left
    · rintro w' ⟨s0, s1, s2, s3, s4, s5⟩
      go_simp
      with_reducible rfl
    rotate_left
    · simp only [Act.put, List.setIfInBounds_toArray, List.set_cons_zero, List.set_cons_succ, i64_w, i32_w]
      rfl
    refine take_ (i := 4) (N := some 23) (v := ?_) (a' := ?_) #[true, true, false, true, true, false, false, false] rfl rfl (take_ofW HT_.out HW_.out (by kernel_rfl)) (fun _ _ _ h => h) (Or.inl ⟨by rfl, ?_⟩) hHeld ?_ ?_
    rotate_left
    · rintro w' ⟨s0, s1, s2, s3, s4, s5⟩
      go_simp
      with_reducible rfl
    rotate_left
    · simp only [Act.put, List.setIfInBounds_toArray, List.set_cons_zero, List.set_cons_succ, i64_w, i32_w]
      rfl
    refine one_ (i := 2) (N := some 21) #[true, true, true, true, true, false, false, false] rfl rfl (one_of HT_.out (by kernel_rfl)) (by decide) (fun K hK => ?_)
    refine goes_ Tryd.func13 (by kernel_rfl) rfl #[.slice Ao13 t308.length co13, .string (⟨#[116, 114, 97, 110, 115, 102, 101, 114, 45, 101, 110, 99, 111, 100, 105, 110, 103]⟩ : ByteArray)] (by rfl) rfl rfl (by (try simp only [List.map_toArray, List.map_cons, List.map_nil]); first | done | rfl | (simp only [List.length_drop, List.length_take]; rfl)) ?_
    with_reducible refine (lockageref05_Get.calls k _ _ t308 (⟨#[116, 114, 97, 110, 115, 102, 101, 114, 45, 101, 110, 99, 111, 100, 105, 110, 103]⟩ : ByteArray) t316 _ ?side1 ?side2 A6.out).mono ?_
    (case side1 => repeat (first | exact (Kd.R_reads' HO310.out).2.2 | (with_reducible refine Kd.C_alloc ?_ _) | (with_reducible refine Kd.C_drewN ?_ _) | (with_reducible refine Kd.C_drew ?_)))
    (case side2 => exact (Kd.R_reads' HO310.out).2.1)
    rintro e w20 ⟨v317, rfl, ho0, hb⟩
    refine ⟨_, rfl, ?_⟩
    have n0_ := Aside0.mk (Kd.R_below (by (with_reducible repeat (first | apply Kd.R_alloc | apply Kd.R_drewN | apply Kd.R_drew)); exact HO310.out) hb)
    have n1_ := Aside0.mk (Kd.R_lower ho0 (below_size (by repeat (first | (with_reducible first | exact HB.out | apply below_alloc | apply pw_below_drewN | apply below_drew1 | refine below_set ?_ GE311.out | refine below_set ?_ GE315.out) | exact HB.out))))
    have n2_ := Aside0.mk (blk_below (g := gb311) (o := .cells #[.string t303, .string t304, .int .i64 t305, .string t306, .int .i64 t307, .slice Ao13 t308.length co13] 25 (0, 0)) (by (with_reducible repeat (first | refine blk_drewN ?_ _ | refine blk_drew ?_ | refine blk_alloc ?_ _)); exact BK311.out) hb)
    have n3_ := Aside0.mk (blk_below (g := gb315) (o := .cells #[.int .i64 t312, .int .i64 t313] 38 (0, 0)) (by (with_reducible repeat (first | refine blk_drewN ?_ _ | refine blk_drew ?_ | refine blk_alloc ?_ _)); exact BK315.out) hb)
    have n4_ := Aside0.mk (below_step (by repeat (first | (with_reducible first | exact HB.out | apply below_alloc | apply pw_below_drewN | apply below_drew1 | refine below_set ?_ GE311.out | refine below_set ?_ GE315.out) | exact HB.out)) hb)
    clear HO310
    clear BK311
    clear BK315
    clear HB
    have HO310 := n0_
    have HO318 := n1_
    have BK311 := n2_
    have BK315 := n3_
    have HB := n4_
    clear n0_ n1_ n2_ n3_ n4_
    (try clear hb)
    (try clear hb2)
    (try clear hk)
    (try clear hi)
    (try clear ho0)
    refine hK.out _ _ ⟨(blk_cell BK311.out 0).trans rfl, (blk_cell BK311.out 1).trans rfl, (blk_cell BK311.out 2).trans rfl, (blk_cell BK311.out 3).trans rfl, (blk_cell BK311.out 4).trans rfl, (blk_cell BK311.out 5).trans rfl⟩ (fun hHeld => ?_)
    clear hK K
    refine norm_ (a' := ?_) ?_ ?_
    rotate_left
    · show Act.put _ (some 21) _ = _
      simp only [Act.put, List.setIfInBounds_toArray, List.set_cons_zero, List.set_cons_succ, i64_w, i32_w]
      rfl
    refine one_ (i := 5) (N := some 24) #[true, true, true, true, true, true, false, false] rfl rfl (one_of HT_.out (by kernel_rfl)) (by decide) (fun K hK => ?_)
    refine goes_ Tryd.func13 (by kernel_rfl) rfl #[.slice Ao13 t308.length co13, .string (⟨#[99, 111, 110, 116, 101, 110, 116, 45, 108, 101, 110, 103, 116, 104]⟩ : ByteArray)] (by rfl) rfl rfl (by (try simp only [List.map_toArray, List.map_cons, List.map_nil]); first | done | rfl | (simp only [List.length_drop, List.length_take]; rfl)) ?_
    with_reducible refine (lockageref05_Get.calls k _ _ t308 (⟨#[99, 111, 110, 116, 101, 110, 116, 45, 108, 101, 110, 103, 116, 104]⟩ : ByteArray) t319 _ ?side1 ?side2 A7.out).mono ?_
    (case side1 => repeat (first | exact (Kd.R_reads' HO310.out).2.2 | (with_reducible refine Kd.C_alloc ?_ _) | (with_reducible refine Kd.C_drewN ?_ _) | (with_reducible refine Kd.C_drew ?_)))
    (case side2 => exact (Kd.R_reads' HO310.out).2.1)
    rintro e w21 ⟨v320, rfl, ho0, hb⟩
    refine ⟨_, rfl, ?_⟩
    have n0_ := Aside0.mk (Kd.R_below (by (with_reducible repeat (first | apply Kd.R_alloc | apply Kd.R_drewN | apply Kd.R_drew)); exact HO310.out) hb)
    have n1_ := Aside0.mk (Kd.R_elder' (by (with_reducible repeat (first | apply Kd.R_alloc | apply Kd.R_drewN | apply Kd.R_drew)); exact HO318.out) (Kd.R_base ho0) hb)
    have n2_ := Aside0.mk (Kd.R_lower (Kd.R_new' ho0 (Kd.R_lt (by (with_reducible repeat (first | apply Kd.R_alloc | apply Kd.R_drewN | apply Kd.R_drew)); exact HO318.out))) (below_size (by repeat (first | (with_reducible first | exact HB.out | apply below_alloc | apply pw_below_drewN | apply below_drew1 | refine below_set ?_ GE311.out | refine below_set ?_ GE315.out) | exact HB.out))))
    have n3_ := Aside0.mk (blk_below (g := gb311) (o := .cells #[.string t303, .string t304, .int .i64 t305, .string t306, .int .i64 t307, .slice Ao13 t308.length co13] 25 (0, 0)) (by (with_reducible repeat (first | refine blk_drewN ?_ _ | refine blk_drew ?_ | refine blk_alloc ?_ _)); exact BK311.out) hb)
    have n4_ := Aside0.mk (blk_below (g := gb315) (o := .cells #[.int .i64 t312, .int .i64 t313] 38 (0, 0)) (by (with_reducible repeat (first | refine blk_drewN ?_ _ | refine blk_drew ?_ | refine blk_alloc ?_ _)); exact BK315.out) hb)
    have n5_ := Aside0.mk (below_step (by repeat (first | (with_reducible first | exact HB.out | apply below_alloc | apply pw_below_drewN | apply below_drew1 | refine below_set ?_ GE311.out | refine below_set ?_ GE315.out) | exact HB.out)) hb)
    clear HO310
    clear HO318
    clear BK311
    clear BK315
    clear HB
    have HO310 := n0_
    have HO318 := n1_
    have HO321 := n2_
    have BK311 := n3_
    have BK315 := n4_
    have HB := n5_
    clear n0_ n1_ n2_ n3_ n4_ n5_
    (try clear hb)
    (try clear hb2)
    (try clear hk)
    (try clear hi)
    (try clear ho0)
    refine hK.out _ _ ⟨(blk_cell BK311.out 0).trans rfl, (blk_cell BK311.out 1).trans rfl, (blk_cell BK311.out 2).trans rfl, (blk_cell BK311.out 3).trans rfl, (blk_cell BK311.out 4).trans rfl, (blk_cell BK311.out 5).trans rfl⟩ (fun hHeld => ?_)
    clear hK K
    refine norm_ (a' := ?_) ?_ ?_
    rotate_left
    · show Act.put _ (some 24) _ = _
      simp only [Act.put, List.setIfInBounds_toArray, List.set_cons_zero, List.set_cons_succ, i64_w, i32_w]
      rfl
    refine pure_ (i := 6) (N := some 7) (v := ?_) (a' := ?_) #[true, true, true, true, true, true, true, false] rfl rfl (any_of HT_.out (by kernel_rfl)) (fun _ _ _ h => h) (Or.inl ⟨by rfl, ?_⟩) ?_ ?_
    rotate_left
    · intro w'
      go_simp
      with_reducible rfl
    rotate_left
    · simp only [Act.put, List.setIfInBounds_toArray, List.set_cons_zero, List.set_cons_succ, i64_w, i32_w]
      rfl
    refine pure_ (i := 7) (N := some 8) (v := ?_) (a' := ?_) #[true, true, true, true, true, true, true, true] rfl rfl (any_of HT_.out (by kernel_rfl)) (fun _ _ _ h => h) (Or.inl ⟨by rfl, ?_⟩) ?_ ?_
    rotate_left
    · intro w'
      go_simp
      with_reducible rfl
    rotate_left
    · simp only [Act.put, List.setIfInBounds_toArray, List.set_cons_zero, List.set_cons_succ, i64_w, i32_w]
      rfl
    refine done_ (done_of HT_.out (by kernel_rfl)) ?_
    go_upto_region 7 with (fail)
    go_cut [52] (fun v52 wc => ∃ (kq : Nat) (x52_7 : Bool), v52 = .bool x52_7 ∧ Aside0 (lockagelaw07_FrameSafe.j0 kq true t314 t316 t319 x52_7 t312 t313 = some r) ∧ Aside0 (kq ≤ k) ∧ Aside0 (Kd.R Kd.string 9 wc w.heap.size (fun k_ => some k_ ≠ (v320 : Value).ownBlock) v317 t316) ∧ Aside0 (Kd.R Kd.string 9 wc w.heap.size (fun k_ => some k_ ≠ (v317 : Value).ownBlock) v320 t319) ∧ Aside0 (Kd.R k32 32 wc w.heap.size (fun _ => True) (.slice Ao13 t308.length co13) t308) ∧ Aside0 (wc.heap[gb311]? = some (.cells #[.string t303, .string t304, .int .i64 t305, .string t306, .int .i64 t307, (.slice Ao13 t308.length co13)] 25 (0, 0))) ∧ Aside0 (wc.heap[gb315]? = some (.cells #[.int .i64 t312, .int .i64 t313] 38 (0, 0))) ∧ Aside0 (Below w.heap.size w wc))
    case first =>
      have H := HC8.out
      clear HC8
      by_cases c22 : (t316.length : Int) > 0
      · rw [if_pos c22] at H
        have c22b0 : decide (0 < (t316.length : Int)) = true := decide_eq_true c22
        have c22b1 : decide (0 < t316.length) = true := decide_eq_true (by omega)
        clear c22
        (first | rw [c22b0] | (simp only [i64_w, i32_w]; rw [c22b0]) | skip)
        by_cases c23 : (t319.length : Int) > 0
        · rw [if_pos c23] at H
          have c23b0 : decide (0 < (t319.length : Int)) = true := decide_eq_true c23
          have c23b1 : decide (0 < t319.length) = true := decide_eq_true (by omega)
          clear c23
          have H' := Aside0.mk H
          clear H
          obtain ⟨Ao24, co24, eo24⟩ := Kd.R_slice HO318.out
          subst eo24
          obtain ⟨Ao25, co25, eo25⟩ := Kd.R_slice HO321.out
          subst eo25
          go_wp2
          go_meet
          case rel => exact ⟨_, (true), (by first | rfl | (simp; done) | (simp [*]; done)), H', ⟨by first | omega | exact Nat.le_refl _⟩, ⟨by (with_reducible repeat (first | apply Kd.R_alloc | apply Kd.R_drewN | apply Kd.R_drew)); exact Kd.R_mono HO318.out (fun _ hk => hk.2)⟩, ⟨by (with_reducible repeat (first | apply Kd.R_alloc | apply Kd.R_drewN | apply Kd.R_drew)); exact Kd.R_mono HO321.out (fun _ hk => hk.2)⟩, ⟨by (with_reducible repeat (first | apply Kd.R_alloc | apply Kd.R_drewN | apply Kd.R_drew)); exact HO310.out⟩, ⟨by (with_reducible repeat (first | refine blk_drewN ?_ _ | refine blk_drew ?_ | refine blk_alloc ?_ _)); exact BK311.out⟩, ⟨by (with_reducible repeat (first | refine blk_drewN ?_ _ | refine blk_drew ?_ | refine blk_alloc ?_ _)); exact BK315.out⟩, ⟨by repeat (first | (with_reducible first | exact HB.out | apply below_alloc | apply pw_below_drewN | apply below_drew1 | refine below_set ?_ GE311.out | refine below_set ?_ GE315.out) | exact HB.out)⟩⟩
        · rw [if_neg c23] at H
          have c23b0 : decide (0 < (t319.length : Int)) = false := decide_eq_false c23
          have c23b1 : decide (0 < t319.length) = false := decide_eq_false (by omega)
          clear c23
          by_cases c26 : (t316.length : Int) > 1
          · rw [if_pos c26] at H
            have c26b0 : decide (1 < (t316.length : Int)) = true := decide_eq_true c26
            have c26b1 : decide (1 < t316.length) = true := decide_eq_true (by omega)
            clear c26
            have H' := Aside0.mk H
            clear H
            obtain ⟨Ao27, co27, eo27⟩ := Kd.R_slice HO318.out
            subst eo27
            obtain ⟨Ao28, co28, eo28⟩ := Kd.R_slice HO321.out
            subst eo28
            go_wp2
            go_meet
            case rel => exact ⟨_, (true), (by first | rfl | (simp; done) | (simp [*]; done)), H', ⟨by first | omega | exact Nat.le_refl _⟩, ⟨by (with_reducible repeat (first | apply Kd.R_alloc | apply Kd.R_drewN | apply Kd.R_drew)); exact Kd.R_mono HO318.out (fun _ hk => hk.2)⟩, ⟨by (with_reducible repeat (first | apply Kd.R_alloc | apply Kd.R_drewN | apply Kd.R_drew)); exact Kd.R_mono HO321.out (fun _ hk => hk.2)⟩, ⟨by (with_reducible repeat (first | apply Kd.R_alloc | apply Kd.R_drewN | apply Kd.R_drew)); exact HO310.out⟩, ⟨by (with_reducible repeat (first | refine blk_drewN ?_ _ | refine blk_drew ?_ | refine blk_alloc ?_ _)); exact BK311.out⟩, ⟨by (with_reducible repeat (first | refine blk_drewN ?_ _ | refine blk_drew ?_ | refine blk_alloc ?_ _)); exact BK315.out⟩, ⟨by repeat (first | (with_reducible first | exact HB.out | apply below_alloc | apply pw_below_drewN | apply below_drew1 | refine below_set ?_ GE311.out | refine below_set ?_ GE315.out) | exact HB.out)⟩⟩
          · rw [if_neg c26] at H
            have c26b0 : decide (1 < (t316.length : Int)) = false := decide_eq_false c26
            have c26b1 : decide (1 < t316.length) = false := decide_eq_false (by omega)
            clear c26
            by_cases c29 : (t319.length : Int) > 1
            · rw [if_pos c29] at H
              have c29b0 : decide (1 < (t319.length : Int)) = true := decide_eq_true c29
              have c29b1 : decide (1 < t319.length) = true := decide_eq_true (by omega)
              clear c29
              have H' := Aside0.mk H
              clear H
              obtain ⟨Ao30, co30, eo30⟩ := Kd.R_slice HO318.out
              subst eo30
              obtain ⟨Ao31, co31, eo31⟩ := Kd.R_slice HO321.out
              subst eo31
              go_wp2
              go_meet
              case rel => exact ⟨_, (true), (by first | rfl | (simp; done) | (simp [*]; done)), H', ⟨by first | omega | exact Nat.le_refl _⟩, ⟨by (with_reducible repeat (first | apply Kd.R_alloc | apply Kd.R_drewN | apply Kd.R_drew)); exact Kd.R_mono HO318.out (fun _ hk => hk.2)⟩, ⟨by (with_reducible repeat (first | apply Kd.R_alloc | apply Kd.R_drewN | apply Kd.R_drew)); exact Kd.R_mono HO321.out (fun _ hk => hk.2)⟩, ⟨by (with_reducible repeat (first | apply Kd.R_alloc | apply Kd.R_drewN | apply Kd.R_drew)); exact HO310.out⟩, ⟨by (with_reducible repeat (first | refine blk_drewN ?_ _ | refine blk_drew ?_ | refine blk_alloc ?_ _)); exact BK311.out⟩, ⟨by (with_reducible repeat (first | refine blk_drewN ?_ _ | refine blk_drew ?_ | refine blk_alloc ?_ _)); exact BK315.out⟩, ⟨by repeat (first | (with_reducible first | exact HB.out | apply below_alloc | apply pw_below_drewN | apply below_drew1 | refine below_set ?_ GE311.out | refine below_set ?_ GE315.out) | exact HB.out)⟩⟩
            · rw [if_neg c29] at H
              have c29b0 : decide (1 < (t319.length : Int)) = false := decide_eq_false c29
              have c29b1 : decide (1 < t319.length) = false := decide_eq_false (by omega)
              clear c29
              have H' := Aside0.mk H
              clear H
              obtain ⟨Ao32, co32, eo32⟩ := Kd.R_slice HO318.out
              subst eo32
              obtain ⟨Ao33, co33, eo33⟩ := Kd.R_slice HO321.out
              subst eo33
              have hnb34 := NB311_315.out
              have hnc34 := NB315_311.out
              have hcz35_0 : w21.cell? ⟨gb311, 0, none⟩ = some (.string t303) := (blk_cell BK311.out 0).trans rfl
              have hcz35_1 : w21.cell? ⟨gb311, 1, none⟩ = some (.string t304) := (blk_cell BK311.out 1).trans rfl
              have hcz35_2 : w21.cell? ⟨gb311, 2, none⟩ = some (.int .i64 t305) := (blk_cell BK311.out 2).trans rfl
              have hcz35_3 : w21.cell? ⟨gb311, 3, none⟩ = some (.string t306) := (blk_cell BK311.out 3).trans rfl
              have hcz35_4 : w21.cell? ⟨gb311, 4, none⟩ = some (.int .i64 t307) := (blk_cell BK311.out 4).trans rfl
              have hcz35_5 : w21.cell? ⟨gb311, 5, none⟩ = some (.slice Ao13 t308.length co13) := (blk_cell BK311.out 5).trans rfl
              have hfz35_0 := blk_frozen BK311.out 0
              have hfz35_1 := blk_frozen BK311.out 1
              have hfz35_2 := blk_frozen BK311.out 2
              have hfz35_3 := blk_frozen BK311.out 3
              have hfz35_4 := blk_frozen BK311.out 4
              have hfz35_5 := blk_frozen BK311.out 5
              go_wp2
              go_meet
              case rel => exact ⟨_, ((t307 == 0)), (by first | rfl | (simp; done) | (simp [*]; done)), H', ⟨by first | omega | exact Nat.le_refl _⟩, ⟨by (with_reducible repeat (first | apply Kd.R_alloc | apply Kd.R_drewN | apply Kd.R_drew)); exact Kd.R_mono HO318.out (fun _ hk => hk.2)⟩, ⟨by (with_reducible repeat (first | apply Kd.R_alloc | apply Kd.R_drewN | apply Kd.R_drew)); exact Kd.R_mono HO321.out (fun _ hk => hk.2)⟩, ⟨by (with_reducible repeat (first | apply Kd.R_alloc | apply Kd.R_drewN | apply Kd.R_drew)); exact HO310.out⟩, ⟨by (with_reducible repeat (first | refine blk_drewN ?_ _ | refine blk_drew ?_ | refine blk_alloc ?_ _)); exact BK311.out⟩, ⟨by (with_reducible repeat (first | refine blk_drewN ?_ _ | refine blk_drew ?_ | refine blk_alloc ?_ _)); exact BK315.out⟩, ⟨by repeat (first | (with_reducible first | exact HB.out | apply below_alloc | apply pw_below_drewN | apply below_drew1 | refine below_set ?_ GE311.out | refine below_set ?_ GE315.out) | exact HB.out)⟩⟩
      · rw [if_neg c22] at H
        have c22b0 : decide (0 < (t316.length : Int)) = false := decide_eq_false c22
        have c22b1 : decide (0 < t316.length) = false := decide_eq_false (by omega)
        clear c22
        (first | rw [c22b0] | (simp only [i64_w, i32_w]; rw [c22b0]) | skip)
        by_cases c36 : (t316.length : Int) > 1
        · rw [if_pos c36] at H
          have c36b0 : decide (1 < (t316.length : Int)) = true := decide_eq_true c36
          have c36b1 : decide (1 < t316.length) = true := decide_eq_true (by omega)
          clear c36
          have H' := Aside0.mk H
          clear H
          obtain ⟨Ao37, co37, eo37⟩ := Kd.R_slice HO318.out
          subst eo37
          go_wp2
          go_meet
          case rel => exact ⟨_, (true), (by first | rfl | (simp; done) | (simp [*]; done)), H', ⟨by first | omega | exact Nat.le_refl _⟩, ⟨by (with_reducible repeat (first | apply Kd.R_alloc | apply Kd.R_drewN | apply Kd.R_drew)); exact Kd.R_mono HO318.out (fun _ hk => hk.2)⟩, ⟨by (with_reducible repeat (first | apply Kd.R_alloc | apply Kd.R_drewN | apply Kd.R_drew)); exact Kd.R_mono HO321.out (fun _ hk => hk.2)⟩, ⟨by (with_reducible repeat (first | apply Kd.R_alloc | apply Kd.R_drewN | apply Kd.R_drew)); exact HO310.out⟩, ⟨by (with_reducible repeat (first | refine blk_drewN ?_ _ | refine blk_drew ?_ | refine blk_alloc ?_ _)); exact BK311.out⟩, ⟨by (with_reducible repeat (first | refine blk_drewN ?_ _ | refine blk_drew ?_ | refine blk_alloc ?_ _)); exact BK315.out⟩, ⟨by repeat (first | (with_reducible first | exact HB.out | apply below_alloc | apply pw_below_drewN | apply below_drew1 | refine below_set ?_ GE311.out | refine below_set ?_ GE315.out) | exact HB.out)⟩⟩
        · rw [if_neg c36] at H
          have c36b0 : decide (1 < (t316.length : Int)) = false := decide_eq_false c36
          have c36b1 : decide (1 < t316.length) = false := decide_eq_false (by omega)
          clear c36
          by_cases c38 : (t319.length : Int) > 1
          · rw [if_pos c38] at H
            have c38b0 : decide (1 < (t319.length : Int)) = true := decide_eq_true c38
            have c38b1 : decide (1 < t319.length) = true := decide_eq_true (by omega)
            clear c38
            have H' := Aside0.mk H
            clear H
            obtain ⟨Ao39, co39, eo39⟩ := Kd.R_slice HO318.out
            subst eo39
            obtain ⟨Ao40, co40, eo40⟩ := Kd.R_slice HO321.out
            subst eo40
            go_wp2
            go_meet
            case rel => exact ⟨_, (true), (by first | rfl | (simp; done) | (simp [*]; done)), H', ⟨by first | omega | exact Nat.le_refl _⟩, ⟨by (with_reducible repeat (first | apply Kd.R_alloc | apply Kd.R_drewN | apply Kd.R_drew)); exact Kd.R_mono HO318.out (fun _ hk => hk.2)⟩, ⟨by (with_reducible repeat (first | apply Kd.R_alloc | apply Kd.R_drewN | apply Kd.R_drew)); exact Kd.R_mono HO321.out (fun _ hk => hk.2)⟩, ⟨by (with_reducible repeat (first | apply Kd.R_alloc | apply Kd.R_drewN | apply Kd.R_drew)); exact HO310.out⟩, ⟨by (with_reducible repeat (first | refine blk_drewN ?_ _ | refine blk_drew ?_ | refine blk_alloc ?_ _)); exact BK311.out⟩, ⟨by (with_reducible repeat (first | refine blk_drewN ?_ _ | refine blk_drew ?_ | refine blk_alloc ?_ _)); exact BK315.out⟩, ⟨by repeat (first | (with_reducible first | exact HB.out | apply below_alloc | apply pw_below_drewN | apply below_drew1 | refine below_set ?_ GE311.out | refine below_set ?_ GE315.out) | exact HB.out)⟩⟩
          · rw [if_neg c38] at H
            have c38b0 : decide (1 < (t319.length : Int)) = false := decide_eq_false c38
            have c38b1 : decide (1 < t319.length) = false := decide_eq_false (by omega)
            clear c38
            have H' := Aside0.mk H
            clear H
            obtain ⟨Ao41, co41, eo41⟩ := Kd.R_slice HO318.out
            subst eo41
            obtain ⟨Ao42, co42, eo42⟩ := Kd.R_slice HO321.out
            subst eo42
            go_wp2
            go_meet
            case rel => exact ⟨_, (false), (by first | rfl | (simp; done) | (simp [*]; done)), H', ⟨by first | omega | exact Nat.le_refl _⟩, ⟨by (with_reducible repeat (first | apply Kd.R_alloc | apply Kd.R_drewN | apply Kd.R_drew)); exact Kd.R_mono HO318.out (fun _ hk => hk.2)⟩, ⟨by (with_reducible repeat (first | apply Kd.R_alloc | apply Kd.R_drewN | apply Kd.R_drew)); exact Kd.R_mono HO321.out (fun _ hk => hk.2)⟩, ⟨by (with_reducible repeat (first | apply Kd.R_alloc | apply Kd.R_drewN | apply Kd.R_drew)); exact HO310.out⟩, ⟨by (with_reducible repeat (first | refine blk_drewN ?_ _ | refine blk_drew ?_ | refine blk_alloc ?_ _)); exact BK311.out⟩, ⟨by (with_reducible repeat (first | refine blk_drewN ?_ _ | refine blk_drew ?_ | refine blk_alloc ?_ _)); exact BK315.out⟩, ⟨by repeat (first | (with_reducible first | exact HB.out | apply below_alloc | apply pw_below_drewN | apply below_drew1 | refine below_set ?_ GE311.out | refine below_set ?_ GE315.out) | exact HB.out)⟩⟩
    case rest =>
      clear HC8
      try clear c1
      try clear c2
      try clear p2
      try clear c3
      try clear c6
      try clear c8
      try clear c10
      try clear c12
      try clear c13
      try clear c16
      try clear c22
      try clear c22b0
      try clear c22b1
      try clear c23
      try clear c23b0
      try clear c23b1
      try clear c26
      try clear c26b0
      try clear c26b1
      try clear c29
      try clear c29b0
      try clear c29b1
      try clear c34
      try clear c36
      try clear c36b0
      try clear c36b1
      try clear c38
      try clear c38b0
      try clear c38b1
      try clear hcz12_0
      try clear hcz12_1
      try clear hcz12_2
      try clear hcz12_3
      try clear hcz12_4
      try clear hcz12_5
      try clear hcz17_0
      try clear hcz17_1
      try clear hcz35_0
      try clear hcz35_1
      try clear hcz35_2
      try clear hcz35_3
      try clear hcz35_4
      try clear hcz35_5
      try clear hfz12_0
      try clear hfz12_1
      try clear hfz12_2
      try clear hfz12_3
      try clear hfz12_4
      try clear hfz12_5
      try clear hfz17_0
      try clear hfz17_1
      try clear hfz35_0
      try clear hfz35_1
      try clear hfz35_2
      try clear hfz35_3
      try clear hfz35_4
      try clear hfz35_5
      obtain ⟨kq, x52_7, rfl, HA, HJ7, HO_7, HO_8, HO_312005, BK311, BK315, HB⟩ := hcut
      cases kq with
      | zero => exact absurd HA.out (by simp [lockagelaw07_FrameSafe.j0])
      | succ kj7 =>
        have H := HA.out
        clear HA
        simp only [lockagelaw07_FrameSafe.j0] at H
        by_cases c43 : x52_7 = true
        · subst c43
          have H1 : (if true = true then (some (t314 == 22)) else (some false)) = some r := by rw [if_pos rfl] at H; exact H
          clear H
          have H := H1
          clear H1
          replace H : (some (t314 == 22)) = some r := by rw [if_pos rfl] at H; exact H
          obtain rfl := Option.some.inj H
          go_wp2
          go_ret
          exact ⟨by first | rfl | (simp [errW_none, errW_some] <;> rfl) | (simp [*, errW_none, errW_some] <;> rfl), by repeat (first | (with_reducible first | exact HB.out | apply below_alloc | apply pw_below_drewN | apply below_drew1 | refine below_set ?_ GE311.out | refine below_set ?_ GE315.out) | exact HB.out)⟩
        · replace c43 := Bool.eq_false_iff.mpr c43
          subst c43
          have H1 : (if t314 = 0 then (if true = true then (if ((t312 == 3) == ((t316.length : Int) == 1)) = true then (if ((t312 == 2) == ((t319.length : Int) == 1)) = true then (if ((t312 == 1) == ((wrap64 ((t316.length : Int) + (t319.length : Int))) == 0)) = true then (if t313 ≥ 0 then (some (decide (t313 ≤ 4000))) else (some false)) else (some false)) else (some false)) else (some false)) else (some false)) else (if true = true then (some (t312 == 0 && (t313 == 0))) else (some false))) = some r := by rw [if_neg (show ¬ (false = true) by decide)] at H; exact H
          clear H
          have H := H1
          clear H1
          by_cases c44 : t314 = 0
          · rw [if_pos c44] at H
            have c44b0 : (t314 == 0) = true := beq_iff_eq.mpr c44
            have c44b1 : (t314 != 0) = false := bne_eq_false_iff_eq.mpr c44
            clear c44
            replace H : (if ((t312 == 3) == ((t316.length : Int) == 1)) = true then (if ((t312 == 2) == ((t319.length : Int) == 1)) = true then (if ((t312 == 1) == ((wrap64 ((t316.length : Int) + (t319.length : Int))) == 0)) = true then (if t313 ≥ 0 then (some (decide (t313 ≤ 4000))) else (some false)) else (some false)) else (some false)) else (some false)) = some r := by rw [if_pos rfl] at H; exact H
            by_cases c45 : ((t312 == 3) == ((t316.length : Int) == 1)) = true
            · rw [if_pos c45] at H
              have c45b0 : ((t312 == 3) == ((t316.length : Int) == 1)) = true := c45
              (try (have c45b1 : decide ((t312 == 3) = ((t316.length : Int) == 1)) = true := by simpa using c45))
              (try (have c45b2 : ((t312 == 3) == ((t316.length : Int) == 1)) = true := by simpa using c45))
              clear c45
              by_cases c46 : ((t312 == 2) == ((t319.length : Int) == 1)) = true
              · rw [if_pos c46] at H
                have c46b0 : ((t312 == 2) == ((t319.length : Int) == 1)) = true := c46
                (try (have c46b1 : decide ((t312 == 2) = ((t319.length : Int) == 1)) = true := by simpa using c46))
                (try (have c46b2 : ((t312 == 2) == ((t319.length : Int) == 1)) = true := by simpa using c46))
                clear c46
                by_cases c47 : ((t312 == 1) == ((wrap64 ((t316.length : Int) + (t319.length : Int))) == 0)) = true
                · rw [if_pos c47] at H
                  have c47b0 : ((t312 == 1) == ((wrap64 ((t316.length : Int) + (t319.length : Int))) == 0)) = true := c47
                  (try (have c47b1 : decide ((t312 == 1) = ((wrap64 ((t316.length : Int) + (t319.length : Int))) == 0)) = true := by simpa using c47))
                  (try (have c47b2 : ((t312 == 1) == ((wrap64 ((t316.length : Int) + (t319.length : Int))) == 0)) = true := by simpa using c47))
                  clear c47
                  by_cases c48 : t313 ≥ 0
                  · rw [if_pos c48] at H
                    have c48b0 : decide (0 ≤ t313) = true := decide_eq_true c48
                    clear c48
                    obtain rfl := Option.some.inj H
                    have hnb49 := NB315_311.out
                    have hnc49 := NB311_315.out
                    have hcz50_0 : wc.cell? ⟨gb315, 0, none⟩ = some (.int .i64 t312) := (blk_cell BK315.out 0).trans rfl
                    have hcz50_1 : wc.cell? ⟨gb315, 1, none⟩ = some (.int .i64 t313) := (blk_cell BK315.out 1).trans rfl
                    have hfz50_0 := blk_frozen BK315.out 0
                    have hfz50_1 := blk_frozen BK315.out 1
                    obtain ⟨Ao51, co51, eo51⟩ := Kd.R_slice HO_7.out
                    subst eo51
                    obtain ⟨Ao52, co52, eo52⟩ := Kd.R_slice HO_8.out
                    subst eo52
                    go_wp2
                    go_ret
                    exact ⟨by first | rfl | (simp [errW_none, errW_some] <;> rfl) | (simp [*, errW_none, errW_some] <;> rfl), by repeat (first | (with_reducible first | exact HB.out | apply below_alloc | apply pw_below_drewN | apply below_drew1 | refine below_set ?_ GE311.out | refine below_set ?_ GE315.out) | exact HB.out)⟩
                  · rw [if_neg c48] at H
                    have c48b0 : decide (0 ≤ t313) = false := decide_eq_false c48
                    clear c48
                    obtain rfl := Option.some.inj H
                    have hnb53 := NB315_311.out
                    have hnc53 := NB311_315.out
                    have hcz54_0 : wc.cell? ⟨gb315, 0, none⟩ = some (.int .i64 t312) := (blk_cell BK315.out 0).trans rfl
                    have hcz54_1 : wc.cell? ⟨gb315, 1, none⟩ = some (.int .i64 t313) := (blk_cell BK315.out 1).trans rfl
                    have hfz54_0 := blk_frozen BK315.out 0
                    have hfz54_1 := blk_frozen BK315.out 1
                    obtain ⟨Ao55, co55, eo55⟩ := Kd.R_slice HO_7.out
                    subst eo55
                    obtain ⟨Ao56, co56, eo56⟩ := Kd.R_slice HO_8.out
                    subst eo56
                    go_wp2
                    go_ret
                    exact ⟨by first | rfl | (simp [errW_none, errW_some] <;> rfl) | (simp [*, errW_none, errW_some] <;> rfl), by repeat (first | (with_reducible first | exact HB.out | apply below_alloc | apply pw_below_drewN | apply below_drew1 | refine below_set ?_ GE311.out | refine below_set ?_ GE315.out) | exact HB.out)⟩
                · rw [if_neg c47] at H
                  have c47b0 : ((t312 == 1) == ((wrap64 ((t316.length : Int) + (t319.length : Int))) == 0)) = false := by simpa using c47
                  (try (have c47b1 : decide ((t312 == 1) = ((wrap64 ((t316.length : Int) + (t319.length : Int))) == 0)) = false := by simpa using c47))
                  (try (have c47b2 : ((t312 == 1) == ((wrap64 ((t316.length : Int) + (t319.length : Int))) == 0)) = false := by simpa using c47))
                  (try (have c47b3 : ¬ ((t312 == 1) = ((wrap64 ((t316.length : Int) + (t319.length : Int))) == 0)) := by simpa using c47))
                  clear c47
                  obtain rfl := Option.some.inj H
                  have hnb57 := NB315_311.out
                  have hnc57 := NB311_315.out
                  have hcz58_0 : wc.cell? ⟨gb315, 0, none⟩ = some (.int .i64 t312) := (blk_cell BK315.out 0).trans rfl
                  have hcz58_1 : wc.cell? ⟨gb315, 1, none⟩ = some (.int .i64 t313) := (blk_cell BK315.out 1).trans rfl
                  have hfz58_0 := blk_frozen BK315.out 0
                  have hfz58_1 := blk_frozen BK315.out 1
                  obtain ⟨Ao59, co59, eo59⟩ := Kd.R_slice HO_7.out
                  subst eo59
                  obtain ⟨Ao60, co60, eo60⟩ := Kd.R_slice HO_8.out
                  subst eo60
                  go_wp2
                  go_ret
                  exact ⟨by first | rfl | (simp [errW_none, errW_some] <;> rfl) | (simp [*, errW_none, errW_some] <;> rfl), by repeat (first | (with_reducible first | exact HB.out | apply below_alloc | apply pw_below_drewN | apply below_drew1 | refine below_set ?_ GE311.out | refine below_set ?_ GE315.out) | exact HB.out)⟩
              · rw [if_neg c46] at H
                have c46b0 : ((t312 == 2) == ((t319.length : Int) == 1)) = false := by simpa using c46
                (try (have c46b1 : decide ((t312 == 2) = ((t319.length : Int) == 1)) = false := by simpa using c46))
                (try (have c46b2 : ((t312 == 2) == ((t319.length : Int) == 1)) = false := by simpa using c46))
                (try (have c46b3 : ¬ ((t312 == 2) = ((t319.length : Int) == 1)) := by simpa using c46))
                clear c46
                obtain rfl := Option.some.inj H
                have hnb61 := NB315_311.out
                have hnc61 := NB311_315.out
                have hcz62_0 : wc.cell? ⟨gb315, 0, none⟩ = some (.int .i64 t312) := (blk_cell BK315.out 0).trans rfl
                have hcz62_1 : wc.cell? ⟨gb315, 1, none⟩ = some (.int .i64 t313) := (blk_cell BK315.out 1).trans rfl
                have hfz62_0 := blk_frozen BK315.out 0
                have hfz62_1 := blk_frozen BK315.out 1
                obtain ⟨Ao63, co63, eo63⟩ := Kd.R_slice HO_7.out
                subst eo63
                obtain ⟨Ao64, co64, eo64⟩ := Kd.R_slice HO_8.out
                subst eo64
                go_wp2
                go_ret
                exact ⟨by first | rfl | (simp [errW_none, errW_some] <;> rfl) | (simp [*, errW_none, errW_some] <;> rfl), by repeat (first | (with_reducible first | exact HB.out | apply below_alloc | apply pw_below_drewN | apply below_drew1 | refine below_set ?_ GE311.out | refine below_set ?_ GE315.out) | exact HB.out)⟩
            · rw [if_neg c45] at H
              have c45b0 : ((t312 == 3) == ((t316.length : Int) == 1)) = false := by simpa using c45
              (try (have c45b1 : decide ((t312 == 3) = ((t316.length : Int) == 1)) = false := by simpa using c45))
              (try (have c45b2 : ((t312 == 3) == ((t316.length : Int) == 1)) = false := by simpa using c45))
              (try (have c45b3 : ¬ ((t312 == 3) = ((t316.length : Int) == 1)) := by simpa using c45))
              clear c45
              obtain rfl := Option.some.inj H
              have hnb65 := NB315_311.out
              have hnc65 := NB311_315.out
              have hcz66_0 : wc.cell? ⟨gb315, 0, none⟩ = some (.int .i64 t312) := (blk_cell BK315.out 0).trans rfl
              have hcz66_1 : wc.cell? ⟨gb315, 1, none⟩ = some (.int .i64 t313) := (blk_cell BK315.out 1).trans rfl
              have hfz66_0 := blk_frozen BK315.out 0
              have hfz66_1 := blk_frozen BK315.out 1
              obtain ⟨Ao67, co67, eo67⟩ := Kd.R_slice HO_7.out
              subst eo67
              go_wp2
              go_ret
              exact ⟨by first | rfl | (simp [errW_none, errW_some] <;> rfl) | (simp [*, errW_none, errW_some] <;> rfl), by repeat (first | (with_reducible first | exact HB.out | apply below_alloc | apply pw_below_drewN | apply below_drew1 | refine below_set ?_ GE311.out | refine below_set ?_ GE315.out) | exact HB.out)⟩
          · rw [if_neg c44] at H
            have c44b0 : (t314 == 0) = false := beq_eq_false_iff_ne.mpr c44
            have c44b1 : (t314 != 0) = true := bne_iff_ne.mpr c44
            replace H : (some (t312 == 0 && (t313 == 0))) = some r := by rw [if_pos rfl] at H; exact H
            obtain rfl := Option.some.inj H
            have hnb68 := NB315_311.out
            have hnc68 := NB311_315.out
            have hcz69_0 : wc.cell? ⟨gb315, 0, none⟩ = some (.int .i64 t312) := (blk_cell BK315.out 0).trans rfl
            have hcz69_1 : wc.cell? ⟨gb315, 1, none⟩ = some (.int .i64 t313) := (blk_cell BK315.out 1).trans rfl
            have hfz69_0 := blk_frozen BK315.out 0
            have hfz69_1 := blk_frozen BK315.out 1
            go_wp2
            go_ret
            exact ⟨by first | rfl | (simp [errW_none, errW_some] <;> rfl) | (simp [*, errW_none, errW_some] <;> rfl), by repeat (first | (with_reducible first | exact HB.out | apply below_alloc | apply pw_below_drewN | apply below_drew1 | refine below_set ?_ GE311.out | refine below_set ?_ GE315.out) | exact HB.out)⟩
  · replace c3 := Bool.eq_false_iff.mpr c3
    subst c3
    have H1 : (some false) = some r := by rw [if_neg (show ¬ (false = true) by decide)] at H; exact H
    clear H
    have H := H1
    clear H1
    obtain rfl := Option.some.inj H
    go_enter Tryd.func6, Tryd.ntmps6
    go_wp2_with (first | ((with_reducible refine gate_callee (f := 10) rfl ?_); refine goesL_ (some 9) rfl rfl Tryd.func10 (by kernel_rfl) rfl #[] rfl (by (try simp only [List.map_toArray, List.map_cons, List.map_nil]); first | done | rfl | (simp only [List.length_drop, List.length_take]; rfl)) ?_; (with_reducible refine (lockagelaw07_awake.calls k  false _ A2.out).mono ?_); rintro e w70 ⟨rfl, hb⟩; refine ⟨_, rfl, ?_⟩; have n0_ := Aside0.mk (below_step (by repeat (first | (with_reducible first | exact HB.out | apply below_alloc | apply pw_below_drewN | apply below_drew1) | exact HB.out)) hb); clear HB; have HB := n0_; clear n0_; (try clear hb); (try clear hb2); (try clear hk); (try clear hi)))
    go_ret
    exact ⟨by first | rfl | (simp [errW_none, errW_some] <;> rfl) | (simp [*, errW_none, errW_some] <;> rfl), by repeat (first | (with_reducible first | exact HB.out | apply below_alloc | apply pw_below_drewN | apply below_drew1) | exact HB.out)⟩

/-- THE ONE PURE STATEMENT of lockagelaw07_FrameSafe: yours. -/
def lockagelaw07_FrameSafe.Pure : Prop := ∀ (l0 : List Int), l0.length ≤ maxLen → l0.length * 1 ≤ 140737488351232 → (∀ x ∈ l0, (Lit.int .u8 x).wf = true) → ∃ k, lockagelaw07_FrameSafe.f k l0 = some true
theorem lockagelaw07_FrameSafe.walk (P : lockagelaw07_FrameSafe.Pure) (a0 : Option Addr) (len0 cap0 : Nat) (z0 : List Int) (w : World) (w0 : (a0 = none ∧ len0 = 0 ∧ cap0 = 0 ∧ z0 = []) ∨ ∃ x, a0 = some x ∧ len0 ≤ cap0 ∧ cap0 ≤ maxLen ∧ z0.length = cap0 ∧ (∀ i, i < z0.length → w.cell? (x.add i) = some (.int .u8 (z0.getD i 0))) ∧ ∀ n ∈ z0, (Lit.int .u8 n).wf = true) (y0 : len0 * 1 ≤ 140737488351232) :
    Calls Tryd.prog 6 #[.slice a0 len0 cap0] w fun e w' => e = .returned (.bool true) ∧ Below w.heap.size w w' := by
  obtain ⟨l0, rfl, hr0, hm0, hw0, hc0⟩ := ReadsInt.ofRowC w0
  obtain ⟨k, h⟩ := P l0 hm0 y0 hw0
  refine (lockagelaw07_FrameSafe.calls k _ _ l0 true w (Kd.C_of_reads (d := (0 : Int)) (h1 := fun _ => rfl) hr0) hc0 h).mono ?_
  rintro e w' ⟨rfl, hd⟩
  exact ⟨rfl, hd⟩

end Go.Proofs.YtljppmpigijgaaaDoor.P
