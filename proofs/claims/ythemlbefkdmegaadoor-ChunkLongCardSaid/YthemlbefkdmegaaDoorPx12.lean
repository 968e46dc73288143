/- Printed by a program of the session out of the translation: plain Lean functions, each with the contract that the Go function computes it. -/
import Derived.Test.YthemlbefkdmegaaDoorPx0
import Derived.Test.YthemlbefkdmegaaDoorPx1
import Derived.Test.YthemlbefkdmegaaDoorPx3
import Derived.Test.YthemlbefkdmegaaDoorPx20
import Derived.Test.YthemlbefkdmegaaDoorPx11
import Derived.Test.YthemlbefkdmegaaDoorPx10
import Derived.Test.YthemlbefkdmegaaDoorHZD
namespace Go.Proofs.YthemlbefkdmegaaDoor.P
open Go.RowKit Go.Proofs.YthemlbefkdmegaaDoorW.PrintWords Go.Proofs.YthemlbefkdmegaaDoorW.PrintLast Go.Proofs.YthemlbefkdmegaaDoorW.PrintMore
attribute [local go_sem] max2_int min2_int max_two min_two max_three min_three max_four min_four   -- for this text's walks alone
set_option linter.unusedVariables false
set_option linter.unusedSimpArgs false

/-! ### lockagelaw08_ChunkSmall: function 4 -/
def lockagelaw08_ChunkSmall.f (k : Nat) (l0 : List Int) (l1 : List Int) (a2 : Int) : Option (Bool) := (lockagelaw08_Pieces.f k l0).bind fun t201 => (if 0 ≤ (mn (t201.size : Int) (Int.tmod (wrap64 (a2)) 40)) then (if (mn (t201.size : Int) (Int.tmod (wrap64 (a2)) 40)) ≤ (t201.size : Int) then ((lockageref08_Feed.f k 0 0 (⟨#[]⟩ : ByteArray) 0 (t201.extract 0 ((mn (t201.size : Int) (Int.tmod (wrap64 (a2)) 40)) : Int).toNat)).bind fun bt202 => ((lockagelaw08_awake.f k).bind fun t210 => (if t210 = true then ((lockagelaw08_same.f k 0 0 (⟨#[]⟩ : ByteArray) 0 t201).bind fun t211 => (if t211 = true then ((lockagelaw08_Pieces.f k l1).bind fun t212 => ((lockagelaw08_same.f k bt202.1 bt202.2.1 bt202.2.2.1 bt202.2.2.2.1 t212).bind fun t213 => (if t213 = true then ((lockagelaw08_Pieces.f k l1).bind fun t214 => (if 2 + t214.size ≤ 9223372036854775807 then ((lockagelaw08_same.f k bt202.1 bt202.2.1 bt202.2.2.1 bt202.2.2.2.1 ((⟨#[13, 10]⟩ : ByteArray) ++ t214)).bind fun t215 => (some t215)) else (none))) else (none)))) else (none))) else (none)))) else (none)) else (none))
theorem lockagelaw08_ChunkSmall.mono : ∀ a0 a1 a2 k, LeO (lockagelaw08_ChunkSmall.f k a0 a1 a2) (lockagelaw08_ChunkSmall.f (k + 1) a0 a1 a2) := by
  intro a0 a1 a2 k
  unfold lockagelaw08_ChunkSmall.f
  repeat' first
      | (with_reducible exact lockagelaw08_Pieces.mono _ _)
      | (with_reducible exact lockagelaw08_awake.mono _)
      | (with_reducible exact lockagelaw08_same.mono _ _ _ _ _ _)
      | (with_reducible exact lockageref08_Feed.mono _ _ _ _ _ _)
      | (with_reducible exact LeO.refl _)
      | (with_reducible exact LeO.none _)
      | (with_reducible refine LeO.ite ?_ ?_)
      | (with_reducible refine LeO.bind ?_ (fun _ => ?_))
      | exact lockagelaw08_Pieces.mono _ _
      | exact lockagelaw08_awake.mono _
      | exact lockagelaw08_same.mono _ _ _ _ _ _
      | exact lockageref08_Feed.mono _ _ _ _ _ _
      | exact LeO.none _
      | refine LeO.ite ?_ ?_
      | refine LeO.bind ?_ (fun _ => ?_)
def lockagelaw08_ChunkSmall.T3 : Bool × List (List Nat × List Nat) := (true, [([], []), ([0, 0], [0]), ([1], [1]), ([1], [1]), ([2, 3, 1, 1], [1, 2, 3]), ([1, 4], [1, 4]), ([5, 4], [5]), ([6], [6]), ([6], [6]), ([8, 6, 6], [6, 8]), ([7, 9, 9, 6], [6, 7, 9]), ([6, 10], [6, 10]), ([11, 10], [11]), ([12], [12]), ([12], [12]), ([14, 12, 12], [12, 14]), ([15, 12], [12, 15]), ([13, 16, 15, 12], [12, 13, 16]), ([12, 17], [12, 17]), ([18, 17, 0, 1, 2, 3, 4, 5, 6, 7, 8, 9, 10, 11, 12, 13, 14, 15, 16, 17, 18], [18])])
def lockagelaw08_ChunkSmall.B3 : List Nat := [0, 1, 3, 3, 15, 31, 63, 127, 127, 383, 1023, 2047, 4095, 8191, 8191, 24575, 57343, 131071, 262143, 524287]
theorem lockagelaw08_ChunkSmall.tab3 : rtab .any (opsOf Tryd.f4 3) = lockagelaw08_ChunkSmall.T3 := by kernel_rfl
theorem lockagelaw08_ChunkSmall.bits3 : waitsOk lockagelaw08_ChunkSmall.T3.2 lockagelaw08_ChunkSmall.B3 = true := by kernel_rfl
set_option maxHeartbeats 8000000 in
set_option maxRecDepth 100000 in
theorem lockagelaw08_ChunkSmall.calls (k : Nat) (A0 : Option Addr) (c0 : Nat) (l0 : List Int) (A1 : Option Addr) (c1 : Nat) (l1 : List Int) (a2 : Int) (r : Bool) (w : World) (hr0 : Kd.C (Kd.int .u8) w A0 l0.length l0) (hc0 : l0.length ≤ c0) (hr1 : Kd.C (Kd.int .u8) w A1 l1.length l1) (hc1 : l1.length ≤ c1) (hG_ : H.GlobOk w) (h : lockagelaw08_ChunkSmall.f k l0 l1 a2 = some r) :
    Calls Tryd.prog 4 #[.slice A0 l0.length c0, .slice A1 l1.length c1, .int .u8 a2] w fun e w' => e = .returned (.bool r) ∧ Below w.heap.size w w' := by
  have HG_ := Aside0.mk hG_
  clear hG_
  have hu23 := Tryd.underlying23
  have HR0 := Aside0.mk hr0
  have HC0 := Aside0.mk hc0
  clear hr0 hc0
  have HR1 := Aside0.mk hr1
  have HC1 := Aside0.mk hc1
  clear hr1 hc1
  have HB := Aside0.mk (Below.refl w.heap.size w)
  have H : ((lockagelaw08_Pieces.f k l0).bind fun t201 => (if 0 ≤ (mn (t201.size : Int) (Int.tmod (wrap64 (a2)) 40)) then (if (mn (t201.size : Int) (Int.tmod (wrap64 (a2)) 40)) ≤ (t201.size : Int) then ((lockageref08_Feed.f k 0 0 (⟨#[]⟩ : ByteArray) 0 (t201.extract 0 ((mn (t201.size : Int) (Int.tmod (wrap64 (a2)) 40)) : Int).toNat)).bind fun bt202 => ((lockagelaw08_awake.f k).bind fun t210 => (if t210 = true then ((lockagelaw08_same.f k 0 0 (⟨#[]⟩ : ByteArray) 0 t201).bind fun t211 => (if t211 = true then ((lockagelaw08_Pieces.f k l1).bind fun t212 => ((lockagelaw08_same.f k bt202.1 bt202.2.1 bt202.2.2.1 bt202.2.2.2.1 t212).bind fun t213 => (if t213 = true then ((lockagelaw08_Pieces.f k l1).bind fun t214 => (if 2 + t214.size ≤ 9223372036854775807 then ((lockagelaw08_same.f k bt202.1 bt202.2.1 bt202.2.2.1 bt202.2.2.2.1 ((⟨#[13, 10]⟩ : ByteArray) ++ t214)).bind fun t215 => (some t215)) else (none))) else (none)))) else (none))) else (none)))) else (none)) else (none))) = some r := h
  clear h
  replace H := Option.bind_eq_some_iff.mp H
  obtain ⟨t201, A40, H⟩ := H
  replace H : (if 0 ≤ (mn (t201.size : Int) (Int.tmod (wrap64 (a2)) 40)) then (if (mn (t201.size : Int) (Int.tmod (wrap64 (a2)) 40)) ≤ (t201.size : Int) then ((lockageref08_Feed.f k 0 0 (⟨#[]⟩ : ByteArray) 0 (t201.extract 0 ((mn (t201.size : Int) (Int.tmod (wrap64 (a2)) 40)) : Int).toNat)).bind fun bt202 => ((lockagelaw08_awake.f k).bind fun t210 => (if t210 = true then ((lockagelaw08_same.f k 0 0 (⟨#[]⟩ : ByteArray) 0 t201).bind fun t211 => (if t211 = true then ((lockagelaw08_Pieces.f k l1).bind fun t212 => ((lockagelaw08_same.f k bt202.1 bt202.2.1 bt202.2.2.1 bt202.2.2.2.1 t212).bind fun t213 => (if t213 = true then ((lockagelaw08_Pieces.f k l1).bind fun t214 => (if 2 + t214.size ≤ 9223372036854775807 then ((lockagelaw08_same.f k bt202.1 bt202.2.1 bt202.2.2.1 bt202.2.2.2.1 ((⟨#[13, 10]⟩ : ByteArray) ++ t214)).bind fun t215 => (some t215)) else (none))) else (none)))) else (none))) else (none)))) else (none)) else (none)) = some r := H
  have A4 := Aside0.mk A40
  clear A40
  obtain ⟨ji5, hji5⟩ : ∃ j_ : Int, (mn (t201.size : Int) (Int.tmod (wrap64 (a2)) 40)) = j_ := ⟨_, rfl⟩
  replace H : (if 0 ≤ (ji5) then (if (ji5) ≤ (t201.size : Int) then ((lockageref08_Feed.f k 0 0 (⟨#[]⟩ : ByteArray) 0 (t201.extract 0 ((ji5) : Int).toNat)).bind fun bt202 => ((lockagelaw08_awake.f k).bind fun t210 => (if t210 = true then ((lockagelaw08_same.f k 0 0 (⟨#[]⟩ : ByteArray) 0 t201).bind fun t211 => (if t211 = true then ((lockagelaw08_Pieces.f k l1).bind fun t212 => ((lockagelaw08_same.f k bt202.1 bt202.2.1 bt202.2.2.1 bt202.2.2.2.1 t212).bind fun t213 => (if t213 = true then ((lockagelaw08_Pieces.f k l1).bind fun t214 => (if 2 + t214.size ≤ 9223372036854775807 then ((lockagelaw08_same.f k bt202.1 bt202.2.1 bt202.2.2.1 bt202.2.2.2.1 ((⟨#[13, 10]⟩ : ByteArray) ++ t214)).bind fun t215 => (some t215)) else (none))) else (none)))) else (none))) else (none)))) else (none)) else (none)) = some r := by first | (rw [hji5] at H; exact H) | (simp only [hji5] at H ⊢; exact H)
  (try rw [hji5] at A4)
  have hji5_ : (if (Int.tmod (wrap64 (a2)) 40) < (t201.size : Int) then (Int.tmod (wrap64 (a2)) 40) else (t201.size : Int)) = ji5 := hji5
  by_cases c6 : 0 ≤ (ji5)
  · rw [if_pos c6] at H
    have c6b0 := eq_true c6
    have c6b1 : decide (0 ≤ (ji5)) = true := decide_eq_true c6
    clear c6
    by_cases c7 : (ji5) ≤ (t201.size : Int)
    · rw [if_pos c7] at H
      have c7b0 := eq_true c7
      have c7b1 : decide ((ji5) ≤ (t201.size : Int)) = true := decide_eq_true c7
      clear c7
      replace H := Option.bind_eq_some_iff.mp H
      obtain ⟨⟨t202, t203, t204, t205, t206, t207, t208⟩, A80, H⟩ := H
      replace H : ((lockagelaw08_awake.f k).bind fun t210 => (if t210 = true then ((lockagelaw08_same.f k 0 0 (⟨#[]⟩ : ByteArray) 0 t201).bind fun t211 => (if t211 = true then ((lockagelaw08_Pieces.f k l1).bind fun t212 => ((lockagelaw08_same.f k t202 t203 t204 t205 t212).bind fun t213 => (if t213 = true then ((lockagelaw08_Pieces.f k l1).bind fun t214 => (if 2 + t214.size ≤ 9223372036854775807 then ((lockagelaw08_same.f k t202 t203 t204 t205 ((⟨#[13, 10]⟩ : ByteArray) ++ t214)).bind fun t215 => (some t215)) else (none))) else (none)))) else (none))) else (none))) = some r := H
      have A8 := Aside0.mk A80
      clear A80
      replace H := Option.bind_eq_some_iff.mp H
      obtain ⟨t210, A90, H⟩ := H
      replace H : (if t210 = true then ((lockagelaw08_same.f k 0 0 (⟨#[]⟩ : ByteArray) 0 t201).bind fun t211 => (if t211 = true then ((lockagelaw08_Pieces.f k l1).bind fun t212 => ((lockagelaw08_same.f k t202 t203 t204 t205 t212).bind fun t213 => (if t213 = true then ((lockagelaw08_Pieces.f k l1).bind fun t214 => (if 2 + t214.size ≤ 9223372036854775807 then ((lockagelaw08_same.f k t202 t203 t204 t205 ((⟨#[13, 10]⟩ : ByteArray) ++ t214)).bind fun t215 => (some t215)) else (none))) else (none)))) else (none))) else (none)) = some r := H
      have A9 := Aside0.mk A90
      clear A90
      by_cases c10 : t210 = true
      · subst c10
        have H1 : ((lockagelaw08_same.f k 0 0 (⟨#[]⟩ : ByteArray) 0 t201).bind fun t211 => (if t211 = true then ((lockagelaw08_Pieces.f k l1).bind fun t212 => ((lockagelaw08_same.f k t202 t203 t204 t205 t212).bind fun t213 => (if t213 = true then ((lockagelaw08_Pieces.f k l1).bind fun t214 => (if 2 + t214.size ≤ 9223372036854775807 then ((lockagelaw08_same.f k t202 t203 t204 t205 ((⟨#[13, 10]⟩ : ByteArray) ++ t214)).bind fun t215 => (some t215)) else (none))) else (none)))) else (none))) = some r := by rw [if_pos rfl] at H; exact H
        clear H
        have H := H1
        clear H1
        replace H := Option.bind_eq_some_iff.mp H
        obtain ⟨t211, A110, H⟩ := H
        replace H : (if t211 = true then ((lockagelaw08_Pieces.f k l1).bind fun t212 => ((lockagelaw08_same.f k t202 t203 t204 t205 t212).bind fun t213 => (if t213 = true then ((lockagelaw08_Pieces.f k l1).bind fun t214 => (if 2 + t214.size ≤ 9223372036854775807 then ((lockagelaw08_same.f k t202 t203 t204 t205 ((⟨#[13, 10]⟩ : ByteArray) ++ t214)).bind fun t215 => (some t215)) else (none))) else (none)))) else (none)) = some r := H
        have A11 := Aside0.mk A110
        clear A110
        by_cases c12 : t211 = true
        · subst c12
          have H1 : ((lockagelaw08_Pieces.f k l1).bind fun t212 => ((lockagelaw08_same.f k t202 t203 t204 t205 t212).bind fun t213 => (if t213 = true then ((lockagelaw08_Pieces.f k l1).bind fun t214 => (if 2 + t214.size ≤ 9223372036854775807 then ((lockagelaw08_same.f k t202 t203 t204 t205 ((⟨#[13, 10]⟩ : ByteArray) ++ t214)).bind fun t215 => (some t215)) else (none))) else (none)))) = some r := by rw [if_pos rfl] at H; exact H
          clear H
          have H := H1
          clear H1
          replace H := Option.bind_eq_some_iff.mp H
          obtain ⟨t212, A130, H⟩ := H
          replace H : ((lockagelaw08_same.f k t202 t203 t204 t205 t212).bind fun t213 => (if t213 = true then ((lockagelaw08_Pieces.f k l1).bind fun t214 => (if 2 + t214.size ≤ 9223372036854775807 then ((lockagelaw08_same.f k t202 t203 t204 t205 ((⟨#[13, 10]⟩ : ByteArray) ++ t214)).bind fun t215 => (some t215)) else (none))) else (none))) = some r := H
          have A13 := Aside0.mk A130
          clear A130
          replace H := Option.bind_eq_some_iff.mp H
          obtain ⟨t213, A140, H⟩ := H
          replace H : (if t213 = true then ((lockagelaw08_Pieces.f k l1).bind fun t214 => (if 2 + t214.size ≤ 9223372036854775807 then ((lockagelaw08_same.f k t202 t203 t204 t205 ((⟨#[13, 10]⟩ : ByteArray) ++ t214)).bind fun t215 => (some t215)) else (none))) else (none)) = some r := H
          have A14 := Aside0.mk A140
          clear A140
          by_cases c15 : t213 = true
          · subst c15
            have H1 : ((lockagelaw08_Pieces.f k l1).bind fun t214 => (if 2 + t214.size ≤ 9223372036854775807 then ((lockagelaw08_same.f k t202 t203 t204 t205 ((⟨#[13, 10]⟩ : ByteArray) ++ t214)).bind fun t215 => (some t215)) else (none))) = some r := by rw [if_pos rfl] at H; exact H
            clear H
            have H := H1
            clear H1
            replace H := Option.bind_eq_some_iff.mp H
            obtain ⟨t214, A160, H⟩ := H
            replace H : (if 2 + t214.size ≤ 9223372036854775807 then ((lockagelaw08_same.f k t202 t203 t204 t205 ((⟨#[13, 10]⟩ : ByteArray) ++ t214)).bind fun t215 => (some t215)) else (none)) = some r := H
            have A16 := Aside0.mk A160
            clear A160
            by_cases c17 : 2 + t214.size ≤ 9223372036854775807
            · rw [if_pos c17] at H
              have c17b0 := eq_true c17
              have c17b1 : decide (2 + t214.size ≤ 9223372036854775807) = true := decide_eq_true c17
              try have c17b2 : (9223372036854775807 < 2 + t214.size) = False := eq_false (Nat.not_lt.2 c17)
              replace H := Option.bind_eq_some_iff.mp H
              obtain ⟨t215, A180, H⟩ := H
              replace H : (some t215) = some r := H
              have A18 := Aside0.mk A180
              clear A180
              obtain rfl := Option.some.inj H
              go_enter Tryd.func4, Tryd.ntmps4
              try go_wp2_with (first | ((with_reducible refine gate_callee (f := 11) rfl ?_); refine goesL_ (some 13) rfl rfl Tryd.func11 (by kernel_rfl) rfl #[.slice A0 l0.length c0] rfl (by (try simp only [List.map_toArray, List.map_cons, List.map_nil]); first | done | rfl | (simp only [List.length_drop, List.length_take]; rfl)) ?_; (with_reducible refine (lockagelaw08_Pieces.calls k _ _ l0 t201 _ ?side1 ?side2 A4.out).mono ?_); (case side1 => repeat (first | exact HR0.out | (with_reducible refine Kd.C_alloc ?_ _) | (with_reducible refine Kd.C_drewN ?_ _) | (with_reducible refine Kd.C_drew ?_))); (case side2 => exact HC0.out); rintro e w19 ⟨rfl, hb⟩; refine ⟨_, rfl, ?_⟩; have n0_ := Aside0.mk (below_step (by repeat (first | (with_reducible first | exact HB.out | apply below_alloc | apply pw_below_drewN | apply below_drew1) | exact HB.out)) hb); clear HB; have HB := n0_; clear n0_; (try clear hb); (try clear hb2); (try clear hk); (try clear hi)) | ((with_reducible refine gate_callee (f := 12) rfl ?_); refine goesL_ (some 24) rfl rfl Tryd.func12 (by kernel_rfl) rfl #[.agg #[.int .i64 0, .int .i64 0, .string (⟨#[]⟩ : ByteArray), .int .i64 0], .string (t201.extract 0 ((ji5) : Int).toNat)] rfl (by (try simp only [List.map_toArray, List.map_cons, List.map_nil]); first | done | (simp only [hji5]; rfl) | rfl | (simp only [List.length_drop, List.length_take]; rfl)) ?_; (with_reducible refine (lockageref08_Feed.calls k 0 0 (⟨#[]⟩ : ByteArray) 0 (t201.extract 0 ((ji5) : Int).toNat) t202 t203 t204 t205 t206 t207 t208 _ A8.out).mono ?_); rintro e w20 ⟨rfl, hb⟩; refine ⟨_, rfl, ?_⟩; have n0_ := Aside0.mk (below_step (by repeat (first | (with_reducible first | exact HB.out | apply below_alloc | apply pw_below_drewN | apply below_drew1) | exact HB.out)) hb); clear HB; have HB := n0_; clear n0_; (try clear hb); (try clear hb2); (try clear hk); (try clear hi)) | ((with_reducible refine gate_dst (N := 8) rfl ?_); refine box_event ?hg (N := 8) ?hd (cs := #[.int .i64 0, .int .i64 0, .string (⟨#[]⟩ : ByteArray), .int .i64 0]) (t := 23) ?hr ?_; (case hd => rfl); (case hg => rfl); (case hr => first | (go_simp; done) | (go_simp; rfl)); intro gb209 hg w21 hbox hb; have n0_ := Aside0.mk (below_step (by repeat (first | (with_reducible first | exact HB.out | apply below_alloc | apply pw_below_drewN | apply below_drew1) | exact HB.out)) hb); have n1_ := Aside0.mk (hbox); have n2_ := Aside0.mk ((by rw [hg]; exact (below_size (by repeat (first | (with_reducible first | exact HB.out | apply below_alloc | apply pw_below_drewN | apply below_drew1) | exact HB.out))) : w.heap.size ≤ gb209)); have n3_ := Aside0.mk ((by rw [hg]; exact (below_size (by repeat (first | (with_reducible first | exact HB.out | apply below_alloc | apply pw_below_drewN | apply below_drew1) | exact HB.out))) : w.heap.size ≤ gb209)); clear HB; have HB := n0_; have BK209 := n1_; have GW209 := n2_; have GE209 := n3_; clear n0_ n1_ n2_ n3_; clear hb hbox hg; have hcz22_0 : w21.cell? ⟨gb209, 0, none⟩ = some (.int .i64 0) := (blk_cell BK209.out 0).trans rfl; have hcz22_1 : w21.cell? ⟨gb209, 1, none⟩ = some (.int .i64 0) := (blk_cell BK209.out 1).trans rfl; have hcz22_2 : w21.cell? ⟨gb209, 2, none⟩ = some (.string (⟨#[]⟩ : ByteArray)) := (blk_cell BK209.out 2).trans rfl; have hcz22_3 : w21.cell? ⟨gb209, 3, none⟩ = some (.int .i64 0) := (blk_cell BK209.out 3).trans rfl; have hfz22_0 := blk_frozen BK209.out 0; have hfz22_1 := blk_frozen BK209.out 1; have hfz22_2 := blk_frozen BK209.out 2; have hfz22_3 := blk_frozen BK209.out 3))
              have n0_ : Aside0 (((((w21.setCell ⟨gb209, 0, none⟩ (.int .i64 t202)).setCell ⟨gb209, 1, none⟩ (.int .i64 t203)).setCell ⟨gb209, 2, none⟩ (.string t204)).setCell ⟨gb209, 3, none⟩ (.int .i64 t205)).heap[gb209]? = some (.cells #[.int .i64 t202, .int .i64 t203, .string t204, .int .i64 t205] 23 (0, 0))) := ⟨by (with_reducible repeat (first | refine blk_drewN ?_ _ | refine blk_drew ?_ | refine blk_alloc ?_ _)); refine blk_put (cs := #[.int .i64 t202, .int .i64 t203, .string t204, .int .i64 0]) ?_ 3 _ rfl; (with_reducible repeat (first | refine blk_drewN ?_ _ | refine blk_drew ?_ | refine blk_alloc ?_ _)); refine blk_put (cs := #[.int .i64 t202, .int .i64 t203, .string (⟨#[]⟩ : ByteArray), .int .i64 0]) ?_ 2 _ rfl; (with_reducible repeat (first | refine blk_drewN ?_ _ | refine blk_drew ?_ | refine blk_alloc ?_ _)); refine blk_put (cs := #[.int .i64 t202, .int .i64 0, .string (⟨#[]⟩ : ByteArray), .int .i64 0]) ?_ 1 _ rfl; (with_reducible repeat (first | refine blk_drewN ?_ _ | refine blk_drew ?_ | refine blk_alloc ?_ _)); refine blk_put (cs := #[.int .i64 0, .int .i64 0, .string (⟨#[]⟩ : ByteArray), .int .i64 0]) ?_ 0 _ rfl; (with_reducible repeat (first | refine blk_drewN ?_ _ | refine blk_drew ?_ | refine blk_alloc ?_ _)); exact BK209.out⟩
              have n1_ : Aside0 (Below w.heap.size w ((((w21.setCell ⟨gb209, 0, none⟩ (.int .i64 t202)).setCell ⟨gb209, 1, none⟩ (.int .i64 t203)).setCell ⟨gb209, 2, none⟩ (.string t204)).setCell ⟨gb209, 3, none⟩ (.int .i64 t205))) := ⟨by repeat (first | (with_reducible first | exact HB.out | apply below_alloc | apply pw_below_drewN | apply below_drew1 | refine below_set ?_ GE209.out) | exact HB.out)⟩
              (try clear BK209)
              (try clear HB)
              generalize ((((w21.setCell ⟨gb209, 0, none⟩ (.int .i64 t202)).setCell ⟨gb209, 1, none⟩ (.int .i64 t203)).setCell ⟨gb209, 2, none⟩ (.string t204)).setCell ⟨gb209, 3, none⟩ (.int .i64 t205)) = w23 at n0_ n1_ ⊢
              have BK209 := n0_
              have HB := n1_
              clear n0_ n1_
              have n0_ := Aside0.mk (blk_drew BK209.out)
              have n1_ := Aside0.mk (below_drew1 HB.out)
              clear BK209
              clear HB
              have BK209 := n0_
              have HB := n1_
              clear n0_ n1_
              refine start_ (n := 20) (S := fun w' => w'.cell? ⟨gb209, 0, none⟩ = some (.int .i64 t202) ∧ w'.cell? ⟨gb209, 1, none⟩ = some (.int .i64 t203) ∧ w'.cell? ⟨gb209, 2, none⟩ = some (.string t204) ∧ w'.cell? ⟨gb209, 3, none⟩ = some (.int .i64 t205)) (ds := []) #[false, false, false, false, false, false, false, false, false, false, false, false, false, false, false, false, false, false, false, false] (by kernel_rfl) rfl rfl ⟨(blk_cell BK209.out 0).trans rfl, (blk_cell BK209.out 1).trans rfl, (blk_cell BK209.out 2).trans rfl, (blk_cell BK209.out 3).trans rfl⟩ (fun hHeld => ?_); refine with_tabW lockagelaw08_ChunkSmall.tab3 lockagelaw08_ChunkSmall.bits3 (fun HT_ HW_ => ?_)
              generalize w23.drew = w24 at BK209 HB hHeld ⊢
              refine one_ (i := 0) (N := some 29) #[true, false, false, false, false, false, false, false, false, false, false, false, false, false, false, false, false, false, false, false] rfl rfl (one_of HT_.out (by kernel_rfl)) (by decide) (fun K hK => ?_)
              refine goes_ Tryd.func9 (by kernel_rfl) rfl #[] (by rfl) rfl rfl (by (try simp only [List.map_toArray, List.map_cons, List.map_nil]); first | done | rfl | (simp only [List.length_drop, List.length_take]; rfl)) ?_
              with_reducible refine (lockagelaw08_awake.calls k  true _ ?side1 A9.out).mono ?_
              (case side1 => exact glob_below HG_.out (by repeat (first | (with_reducible first | exact HB.out | apply below_alloc | apply pw_below_drewN | apply below_drew1 | refine below_set ?_ GE209.out) | exact HB.out)))
              rintro e w25 ⟨rfl, hb⟩
              refine ⟨_, rfl, ?_⟩
              have n0_ := Aside0.mk (blk_below (g := gb209) (o := .cells #[.int .i64 t202, .int .i64 t203, .string t204, .int .i64 t205] 23 (0, 0)) (by (with_reducible repeat (first | refine blk_drewN ?_ _ | refine blk_drew ?_ | refine blk_alloc ?_ _)); exact BK209.out) hb)
              have n1_ := Aside0.mk (below_step (by repeat (first | (with_reducible first | exact HB.out | apply below_alloc | apply pw_below_drewN | apply below_drew1 | refine below_set ?_ GE209.out) | exact HB.out)) hb)
              clear BK209
              clear HB
              have BK209 := n0_
              have HB := n1_
              clear n0_ n1_
              (try clear hb)
              (try clear hb2)
              (try clear hk)
              (try clear hi)
              refine hK.out _ _ ⟨(blk_cell BK209.out 0).trans rfl, (blk_cell BK209.out 1).trans rfl, (blk_cell BK209.out 2).trans rfl, (blk_cell BK209.out 3).trans rfl⟩ (fun hHeld => ?_)
              clear hK K
              refine norm_ (a' := ?_) ?_ ?_
              rotate_left
              · show Act.put _ (some 29) _ = _
                simp only [Act.put, List.setIfInBounds_toArray, List.set_cons_zero, List.set_cons_succ, i64_w, i32_w]
                rfl
              refine pure_ (i := 1) (N := some 30) (v := ?_) (a' := ?_) #[true, true, false, false, false, false, false, false, false, false, false, false, false, false, false, false, false, false, false, false] rfl rfl (any_of HT_.out (by kernel_rfl)) (fun _ _ _ h => h) (Or.inl ⟨by rfl, ?_⟩) ?_ ?_
              rotate_left
              · intro w'
                go_simp
                with_reducible rfl
              rotate_left
              · simp only [Act.put, List.setIfInBounds_toArray, List.set_cons_zero, List.set_cons_succ, i64_w, i32_w]
                rfl
              refine pure_ (i := 2) (N := some 31) (v := ?_) (a' := ?_) #[true, true, true, false, false, false, false, false, false, false, false, false, false, false, false, false, false, false, false, false] rfl rfl (any_of HT_.out (by kernel_rfl)) (fun _ _ _ h => h) (Or.inl ⟨by rfl, ?_⟩) ?_ ?_
              rotate_left
              · intro w'
                go_simp
                with_reducible rfl
              rotate_left
              · simp only [Act.put, List.setIfInBounds_toArray, List.set_cons_zero, List.set_cons_succ, i64_w, i32_w]
                rfl
              refine pure_ (i := 3) (N := some 32) (v := ?_) (a' := ?_) #[true, true, true, true, false, false, false, false, false, false, false, false, false, false, false, false, false, false, false, false] rfl rfl (any_of HT_.out (by kernel_rfl)) (fun _ _ _ h => h) (Or.inl ⟨by rfl, ?_⟩) ?_ ?_
              rotate_left
              · intro w'
                go_simp
                with_reducible rfl
              rotate_left
              · simp only [Act.put, List.setIfInBounds_toArray, List.set_cons_zero, List.set_cons_succ, i64_w, i32_w]
                rfl
              refine one_ (i := 4) (N := some 33) #[true, true, true, true, true, false, false, false, false, false, false, false, false, false, false, false, false, false, false, false] rfl rfl (one_of HT_.out (by kernel_rfl)) (by decide) (fun K hK => ?_)
              refine goes_ Tryd.func10 (by kernel_rfl) rfl #[.agg #[.int .i64 0, .int .i64 0, .string (⟨#[]⟩ : ByteArray), .int .i64 0], .string t201] (by rfl) rfl rfl (by (try simp only [List.map_toArray, List.map_cons, List.map_nil]); first | done | rfl | (simp only [List.length_drop, List.length_take]; rfl)) ?_
              with_reducible refine (lockagelaw08_same.calls k 0 0 (⟨#[]⟩ : ByteArray) 0 t201 true _ A11.out).mono ?_
              rintro e w26 ⟨rfl, hb⟩
              refine ⟨_, rfl, ?_⟩
              have n0_ := Aside0.mk (blk_below (g := gb209) (o := .cells #[.int .i64 t202, .int .i64 t203, .string t204, .int .i64 t205] 23 (0, 0)) (by (with_reducible repeat (first | refine blk_drewN ?_ _ | refine blk_drew ?_ | refine blk_alloc ?_ _)); exact BK209.out) hb)
              have n1_ := Aside0.mk (below_step (by repeat (first | (with_reducible first | exact HB.out | apply below_alloc | apply pw_below_drewN | apply below_drew1 | refine below_set ?_ GE209.out) | exact HB.out)) hb)
              clear BK209
              clear HB
              have BK209 := n0_
              have HB := n1_
              clear n0_ n1_
              (try clear hb)
              (try clear hb2)
              (try clear hk)
              (try clear hi)
              refine hK.out _ _ ⟨(blk_cell BK209.out 0).trans rfl, (blk_cell BK209.out 1).trans rfl, (blk_cell BK209.out 2).trans rfl, (blk_cell BK209.out 3).trans rfl⟩ (fun hHeld => ?_)
              clear hK K
              refine norm_ (a' := ?_) ?_ ?_
              rotate_left
              · show Act.put _ (some 33) _ = _
                simp only [Act.put, List.setIfInBounds_toArray, List.set_cons_zero, List.set_cons_succ, i64_w, i32_w]
                rfl
              refine pure_ (i := 5) (N := some 34) (v := ?_) (a' := ?_) #[true, true, true, true, true, true, false, false, false, false, false, false, false, false, false, false, false, false, false, false] rfl rfl (any_of HT_.out (by kernel_rfl)) (fun _ _ _ h => h) (Or.inl ⟨by rfl, ?_⟩) ?_ ?_
              rotate_left
              · intro w'
                go_simp
                with_reducible rfl
              rotate_left
              · simp only [Act.put, List.setIfInBounds_toArray, List.set_cons_zero, List.set_cons_succ, i64_w, i32_w]
                rfl
              refine pure_ (i := 6) (N := some 35) (v := ?_) (a' := ?_) #[true, true, true, true, true, true, true, false, false, false, false, false, false, false, false, false, false, false, false, false] rfl rfl (any_of HT_.out (by kernel_rfl)) (fun _ _ _ h => h) (Or.inl ⟨by rfl, ?_⟩) ?_ ?_
              rotate_left
              · intro w'
                go_simp
                with_reducible rfl
              rotate_left
              · simp only [Act.put, List.setIfInBounds_toArray, List.set_cons_zero, List.set_cons_succ, i64_w, i32_w]
                rfl
              refine pure_ (i := 8) (N := some 37) (v := ?_) (a' := ?_) #[true, true, true, true, true, true, true, false, true, false, false, false, false, false, false, false, false, false, false, false] rfl rfl (any_of HT_.out (by kernel_rfl)) (fun _ _ _ h => h) (Or.inl ⟨by rfl, ?_⟩) ?_ ?_
              rotate_left
              · intro w'
                go_simp
                with_reducible rfl
              rotate_left
              · simp only [Act.put, List.setIfInBounds_toArray, List.set_cons_zero, List.set_cons_succ, i64_w, i32_w]
                rfl
              refine take_ (i := 7) (N := some 36) (v := ?_) (a' := ?_) #[true, true, true, true, true, true, true, true, true, false, false, false, false, false, false, false, false, false, false, false] rfl rfl (take_ofW HT_.out HW_.out (by kernel_rfl)) (fun _ _ _ h => h) (Or.inl ⟨by rfl, ?_⟩) hHeld ?_ ?_
              rotate_left
              · rintro w' ⟨s0, s1, s2, s3⟩
                go_simp
                with_reducible rfl
              rotate_left
              · simp only [Act.put, List.setIfInBounds_toArray, List.set_cons_zero, List.set_cons_succ, i64_w, i32_w]
                rfl
              refine one_ (i := 9) (N := some 38) #[true, true, true, true, true, true, true, true, true, true, false, false, false, false, false, false, false, false, false, false] rfl rfl (one_of HT_.out (by kernel_rfl)) (by decide) (fun K hK => ?_)
              refine goes_ Tryd.func11 (by kernel_rfl) rfl #[.slice A1 l1.length c1] (by rfl) rfl rfl (by (try simp only [List.map_toArray, List.map_cons, List.map_nil]); first | done | rfl | (simp only [List.length_drop, List.length_take]; rfl)) ?_
              with_reducible refine (lockagelaw08_Pieces.calls k _ _ l1 t212 _ ?side1 ?side2 A13.out).mono ?_
              (case side1 => repeat (first | exact (Kd.C_below HR1.out HB.out) | (with_reducible refine Kd.C_alloc ?_ _) | (with_reducible refine Kd.C_drewN ?_ _) | (with_reducible refine Kd.C_drew ?_)))
              (case side2 => exact HC1.out)
              rintro e w27 ⟨rfl, hb⟩
              refine ⟨_, rfl, ?_⟩
              have n0_ := Aside0.mk (blk_below (g := gb209) (o := .cells #[.int .i64 t202, .int .i64 t203, .string t204, .int .i64 t205] 23 (0, 0)) (by (with_reducible repeat (first | refine blk_drewN ?_ _ | refine blk_drew ?_ | refine blk_alloc ?_ _)); exact BK209.out) hb)
              have n1_ := Aside0.mk (below_step (by repeat (first | (with_reducible first | exact HB.out | apply below_alloc | apply pw_below_drewN | apply below_drew1 | refine below_set ?_ GE209.out) | exact HB.out)) hb)
              clear BK209
              clear HB
              have BK209 := n0_
              have HB := n1_
              clear n0_ n1_
              (try clear hb)
              (try clear hb2)
              (try clear hk)
              (try clear hi)
              refine hK.out _ _ ⟨(blk_cell BK209.out 0).trans rfl, (blk_cell BK209.out 1).trans rfl, (blk_cell BK209.out 2).trans rfl, (blk_cell BK209.out 3).trans rfl⟩ (fun hHeld => ?_)
              clear hK K
              refine norm_ (a' := ?_) ?_ ?_
              rotate_left
              · show Act.put _ (some 38) _ = _
                simp only [Act.put, List.setIfInBounds_toArray, List.set_cons_zero, List.set_cons_succ, i64_w, i32_w]
                rfl
              refine one_ (i := 10) (N := some 39) #[true, true, true, true, true, true, true, true, true, true, true, false, false, false, false, false, false, false, false, false] rfl rfl (one_of HT_.out (by kernel_rfl)) (by decide) (fun K hK => ?_)
              refine goes_ Tryd.func10 (by kernel_rfl) rfl #[.agg #[.int .i64 t202, .int .i64 t203, .string t204, .int .i64 t205], .string t212] (by rfl) rfl rfl (by (try simp only [List.map_toArray, List.map_cons, List.map_nil]); first | done | rfl | (simp only [List.length_drop, List.length_take]; rfl)) ?_
              with_reducible refine (lockagelaw08_same.calls k t202 t203 t204 t205 t212 true _ A14.out).mono ?_
              rintro e w28 ⟨rfl, hb⟩
              refine ⟨_, rfl, ?_⟩
              have n0_ := Aside0.mk (blk_below (g := gb209) (o := .cells #[.int .i64 t202, .int .i64 t203, .string t204, .int .i64 t205] 23 (0, 0)) (by (with_reducible repeat (first | refine blk_drewN ?_ _ | refine blk_drew ?_ | refine blk_alloc ?_ _)); exact BK209.out) hb)
              have n1_ := Aside0.mk (below_step (by repeat (first | (with_reducible first | exact HB.out | apply below_alloc | apply pw_below_drewN | apply below_drew1 | refine below_set ?_ GE209.out) | exact HB.out)) hb)
              clear BK209
              clear HB
              have BK209 := n0_
              have HB := n1_
              clear n0_ n1_
              (try clear hb)
              (try clear hb2)
              (try clear hk)
              (try clear hi)
              refine hK.out _ _ ⟨(blk_cell BK209.out 0).trans rfl, (blk_cell BK209.out 1).trans rfl, (blk_cell BK209.out 2).trans rfl, (blk_cell BK209.out 3).trans rfl⟩ (fun hHeld => ?_)
              clear hK K
              refine norm_ (a' := ?_) ?_ ?_
              rotate_left
              · show Act.put _ (some 39) _ = _
                simp only [Act.put, List.setIfInBounds_toArray, List.set_cons_zero, List.set_cons_succ, i64_w, i32_w]
                rfl
              refine pure_ (i := 11) (N := some 40) (v := ?_) (a' := ?_) #[true, true, true, true, true, true, true, true, true, true, true, true, false, false, false, false, false, false, false, false] rfl rfl (any_of HT_.out (by kernel_rfl)) (fun _ _ _ h => h) (Or.inl ⟨by rfl, ?_⟩) ?_ ?_
              rotate_left
              · intro w'
                go_simp
                with_reducible rfl
              rotate_left
              · simp only [Act.put, List.setIfInBounds_toArray, List.set_cons_zero, List.set_cons_succ, i64_w, i32_w]
                rfl
              refine pure_ (i := 12) (N := some 41) (v := ?_) (a' := ?_) #[true, true, true, true, true, true, true, true, true, true, true, true, true, false, false, false, false, false, false, false] rfl rfl (any_of HT_.out (by kernel_rfl)) (fun _ _ _ h => h) (Or.inl ⟨by rfl, ?_⟩) ?_ ?_
              rotate_left
              · intro w'
                go_simp
                with_reducible rfl
              rotate_left
              · simp only [Act.put, List.setIfInBounds_toArray, List.set_cons_zero, List.set_cons_succ, i64_w, i32_w]
                rfl
              refine pure_ (i := 14) (N := some 43) (v := ?_) (a' := ?_) #[true, true, true, true, true, true, true, true, true, true, true, true, true, false, true, false, false, false, false, false] rfl rfl (any_of HT_.out (by kernel_rfl)) (fun _ _ _ h => h) (Or.inl ⟨by rfl, ?_⟩) ?_ ?_
              rotate_left
              · intro w'
                go_simp
                with_reducible rfl
              rotate_left
              · simp only [Act.put, List.setIfInBounds_toArray, List.set_cons_zero, List.set_cons_succ, i64_w, i32_w]
                rfl
              refine take_ (i := 13) (N := some 42) (v := ?_) (a' := ?_) #[true, true, true, true, true, true, true, true, true, true, true, true, true, true, true, false, false, false, false, false] rfl rfl (take_ofW HT_.out HW_.out (by kernel_rfl)) (fun _ _ _ h => h) (Or.inl ⟨by rfl, ?_⟩) hHeld ?_ ?_
              rotate_left
              · rintro w' ⟨s0, s1, s2, s3⟩
                go_simp
                with_reducible rfl
              rotate_left
              · simp only [Act.put, List.setIfInBounds_toArray, List.set_cons_zero, List.set_cons_succ, i64_w, i32_w]
                rfl
              refine one_ (i := 15) (N := some 44) #[true, true, true, true, true, true, true, true, true, true, true, true, true, true, true, true, false, false, false, false] rfl rfl (one_of HT_.out (by kernel_rfl)) (by decide) (fun K hK => ?_)
              refine goes_ Tryd.func11 (by kernel_rfl) rfl #[.slice A1 l1.length c1] (by rfl) rfl rfl (by (try simp only [List.map_toArray, List.map_cons, List.map_nil]); first | done | rfl | (simp only [List.length_drop, List.length_take]; rfl)) ?_
              with_reducible refine (lockagelaw08_Pieces.calls k _ _ l1 t214 _ ?side1 ?side2 A16.out).mono ?_
              (case side1 => repeat (first | exact (Kd.C_below HR1.out HB.out) | (with_reducible refine Kd.C_alloc ?_ _) | (with_reducible refine Kd.C_drewN ?_ _) | (with_reducible refine Kd.C_drew ?_)))
              (case side2 => exact HC1.out)
              rintro e w29 ⟨rfl, hb⟩
              refine ⟨_, rfl, ?_⟩
              have n0_ := Aside0.mk (blk_below (g := gb209) (o := .cells #[.int .i64 t202, .int .i64 t203, .string t204, .int .i64 t205] 23 (0, 0)) (by (with_reducible repeat (first | refine blk_drewN ?_ _ | refine blk_drew ?_ | refine blk_alloc ?_ _)); exact BK209.out) hb)
              have n1_ := Aside0.mk (below_step (by repeat (first | (with_reducible first | exact HB.out | apply below_alloc | apply pw_below_drewN | apply below_drew1 | refine below_set ?_ GE209.out) | exact HB.out)) hb)
              clear BK209
              clear HB
              have BK209 := n0_
              have HB := n1_
              clear n0_ n1_
              (try clear hb)
              (try clear hb2)
              (try clear hk)
              (try clear hi)
              refine hK.out _ _ ⟨(blk_cell BK209.out 0).trans rfl, (blk_cell BK209.out 1).trans rfl, (blk_cell BK209.out 2).trans rfl, (blk_cell BK209.out 3).trans rfl⟩ (fun hHeld => ?_)
              clear hK K
              refine norm_ (a' := ?_) ?_ ?_
              rotate_left
              · show Act.put _ (some 44) _ = _
                simp only [Act.put, List.setIfInBounds_toArray, List.set_cons_zero, List.set_cons_succ, i64_w, i32_w]
                rfl
              refine pure_ (i := 16) (N := some 45) (v := ?_) (a' := ?_) #[true, true, true, true, true, true, true, true, true, true, true, true, true, true, true, true, true, false, false, false] rfl rfl (any_of HT_.out (by kernel_rfl)) (fun _ _ _ h => h) (Or.inl ⟨by rfl, ?_⟩) ?_ ?_
              rotate_left
              · intro w'
                go_simp
                with_reducible rfl
              rotate_left
              · simp only [Act.put, List.setIfInBounds_toArray, List.set_cons_zero, List.set_cons_succ, i64_w, i32_w]
                rfl
              refine one_ (i := 17) (N := some 46) #[true, true, true, true, true, true, true, true, true, true, true, true, true, true, true, true, true, true, false, false] rfl rfl (one_of HT_.out (by kernel_rfl)) (by decide) (fun K hK => ?_)
              refine goes_ Tryd.func10 (by kernel_rfl) rfl #[.agg #[.int .i64 t202, .int .i64 t203, .string t204, .int .i64 t205], .string ((⟨#[13, 10]⟩ : ByteArray) ++ t214)] (by rfl) rfl rfl (by (try simp only [List.map_toArray, List.map_cons, List.map_nil]); first | done | rfl | (simp only [List.length_drop, List.length_take]; rfl)) ?_
              with_reducible refine (lockagelaw08_same.calls k t202 t203 t204 t205 ((⟨#[13, 10]⟩ : ByteArray) ++ t214) t215 _ A18.out).mono ?_
              rintro e w30 ⟨rfl, hb⟩
              refine ⟨_, rfl, ?_⟩
              have n0_ := Aside0.mk (blk_below (g := gb209) (o := .cells #[.int .i64 t202, .int .i64 t203, .string t204, .int .i64 t205] 23 (0, 0)) (by (with_reducible repeat (first | refine blk_drewN ?_ _ | refine blk_drew ?_ | refine blk_alloc ?_ _)); exact BK209.out) hb)
              have n1_ := Aside0.mk (below_step (by repeat (first | (with_reducible first | exact HB.out | apply below_alloc | apply pw_below_drewN | apply below_drew1 | refine below_set ?_ GE209.out) | exact HB.out)) hb)
              clear BK209
              clear HB
              have BK209 := n0_
              have HB := n1_
              clear n0_ n1_
              (try clear hb)
              (try clear hb2)
              (try clear hk)
              (try clear hi)
              refine hK.out _ _ ⟨(blk_cell BK209.out 0).trans rfl, (blk_cell BK209.out 1).trans rfl, (blk_cell BK209.out 2).trans rfl, (blk_cell BK209.out 3).trans rfl⟩ (fun hHeld => ?_)
              clear hK K
              refine norm_ (a' := ?_) ?_ ?_
              rotate_left
              · show Act.put _ (some 46) _ = _
                simp only [Act.put, List.setIfInBounds_toArray, List.set_cons_zero, List.set_cons_succ, i64_w, i32_w]
                rfl
              refine pure_ (i := 18) (N := some 47) (v := ?_) (a' := ?_) #[true, true, true, true, true, true, true, true, true, true, true, true, true, true, true, true, true, true, true, false] rfl rfl (any_of HT_.out (by kernel_rfl)) (fun _ _ _ h => h) (Or.inl ⟨by rfl, ?_⟩) ?_ ?_
              rotate_left
              · intro w'
                go_simp
                with_reducible rfl
              rotate_left
              · simp only [Act.put, List.setIfInBounds_toArray, List.set_cons_zero, List.set_cons_succ, i64_w, i32_w]
                rfl
              refine pure_ (i := 19) (N := some 6) (v := ?_) (a' := ?_) #[true, true, true, true, true, true, true, true, true, true, true, true, true, true, true, true, true, true, true, true] rfl rfl (any_of HT_.out (by kernel_rfl)) (fun _ _ _ h => h) (Or.inl ⟨by rfl, ?_⟩) ?_ ?_
              rotate_left
              · intro w'
                go_simp
                with_reducible rfl
              rotate_left
              · simp only [Act.put, List.setIfInBounds_toArray, List.set_cons_zero, List.set_cons_succ, i64_w, i32_w]
                rfl
              refine done_ (done_of HT_.out (by kernel_rfl)) ?_
              try go_wp2
              go_ret
              exact ⟨by first | rfl | (simp [errW_none, errW_some] <;> rfl) | (simp only [← hji5]; first | rfl | (simp [errW_none, errW_some] <;> rfl)) | (simp [*, errW_none, errW_some] <;> rfl), by repeat (first | (with_reducible first | exact HB.out | apply below_alloc | apply pw_below_drewN | apply below_drew1 | refine below_set ?_ GE209.out) | exact HB.out)⟩
            · rw [if_neg c17] at H
              exact absurd H (by simp)
          · replace c15 := Bool.eq_false_iff.mpr c15
            subst c15
            have H1 : (none) = some r := by rw [if_neg (show ¬ (false = true) by decide)] at H; exact H
            clear H
            have H := H1
            clear H1
            exact absurd H (by simp)
        · replace c12 := Bool.eq_false_iff.mpr c12
          subst c12
          have H1 : (none) = some r := by rw [if_neg (show ¬ (false = true) by decide)] at H; exact H
          clear H
          have H := H1
          clear H1
          exact absurd H (by simp)
      · replace c10 := Bool.eq_false_iff.mpr c10
        subst c10
        have H1 : (none) = some r := by rw [if_neg (show ¬ (false = true) by decide)] at H; exact H
        clear H
        have H := H1
        clear H1
        exact absurd H (by simp)
    · rw [if_neg c7] at H
      exact absurd H (by simp)
  · rw [if_neg c6] at H
    exact absurd H (by simp)

/-- THE ONE PURE STATEMENT of lockagelaw08_ChunkSmall: yours. -/
def lockagelaw08_ChunkSmall.Pure : Prop := ∀ (l0 : List Int) (l1 : List Int) (a2 : Int), l0.length ≤ maxLen → l0.length * 1 ≤ 140737488351232 → (∀ x ∈ l0, (Lit.int .u8 x).wf = true) → l1.length ≤ maxLen → l1.length * 1 ≤ 140737488351232 → (∀ x ∈ l1, (Lit.int .u8 x).wf = true) → (Lit.int .u8 a2).wf = true → ∃ k, lockagelaw08_ChunkSmall.f k l0 l1 a2 = some true
end Go.Proofs.YthemlbefkdmegaaDoor.P
