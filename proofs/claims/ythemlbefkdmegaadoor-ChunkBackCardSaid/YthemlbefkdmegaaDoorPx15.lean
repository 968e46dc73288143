/- Printed by a program of the session out of the translation: plain Lean functions, each with the contract that the Go function computes it. -/
import Derived.Test.YthemlbefkdmegaaDoorPx0
import Derived.Test.YthemlbefkdmegaaDoorPx1
import Derived.Test.YthemlbefkdmegaaDoorPx3
import Derived.Test.YthemlbefkdmegaaDoorHU2
import Derived.Test.YthemlbefkdmegaaDoorHX5
import Derived.Test.YthemlbefkdmegaaDoorHX6
namespace Go.Proofs.YthemlbefkdmegaaDoor.P
open Go.RowKit Go.Proofs.YthemlbefkdmegaaDoorW.PrintWords Go.Proofs.YthemlbefkdmegaaDoorW.PrintLast Go.Proofs.YthemlbefkdmegaaDoorW.PrintMore
attribute [local go_sem] max2_int min2_int max_two min_two max_three min_three max_four min_four   -- for this text's walks alone
set_option linter.unusedVariables false
set_option linter.unusedSimpArgs false

attribute [local go_sem high] eqA23
/-! ### lockagelaw08_ChunkBack: function 8 -/
def lockagelaw08_ChunkBack.j0 : Nat → ByteArray → Int → ByteArray → Bool → Option (Bool)
  | 0, _, _, _, _ => none
  | k + 1, x0, x1, x2, x7 => (chunk_Encode.f k x0 (wrap64 (1 + (Int.tmod (wrap64 (x1)) 4000)))).bind fun bt261 => (if bt261.1.size + x2.size ≤ 9223372036854775807 then ((chunk_Feed.f k 0 0 (⟨#[]⟩ : ByteArray) 0 (bt261.1 ++ x2)).bind fun bt263 => (if x7 = true then (if bt261.2 = 0 then (if bt263.2.2.2.2.2.2 = 0 then (if bt263.2.2.2.2.2.1.toList = x0.toList then (if bt263.2.2.2.2.1 = (bt261.1.size : Int) then (some (bt263.1 == 4 && (bt263.2.1 == 0 && (bt263.2.2.1.toList == ([] : List UInt8) && (bt263.2.2.2.1 == (x0.size : Int)))))) else (none)) else (none)) else (none)) else (none)) else (none))) else (none))
def lockagelaw08_ChunkBack.f (k : Nat) (a0 : ByteArray) (a1 : Int) (a2 : ByteArray) : Option (Bool) := (lockagelaw08_awake.f k).bind fun t260 => (if t260 = true then (if (a0.size : Int) > 300 then (if 0 ≤ 300 then (if 300 ≤ (a0.size : Int) then (lockagelaw08_ChunkBack.j0 k (a0.extract 0 300) a1 a2 t260) else (none)) else (none)) else (lockagelaw08_ChunkBack.j0 k a0 a1 a2 t260)) else (none))
theorem lockagelaw08_ChunkBack.mono_l : ∀ k, (∀ y0 y1 y2 y3, LeO (lockagelaw08_ChunkBack.j0 k y0 y1 y2 y3) (lockagelaw08_ChunkBack.j0 (k + 1) y0 y1 y2 y3))
  | 0 => fun _ _ _ _ r h => by simp [lockagelaw08_ChunkBack.j0] at h
  | k + 1 => by
    have ih0 := lockagelaw08_ChunkBack.mono_l k
    · intro y0 y1 y2 y3
      unfold lockagelaw08_ChunkBack.j0
      repeat' first
      | (with_reducible exact ih0 _ _ _ _)
      | (with_reducible exact chunk_Encode.mono _ _ _)
      | (with_reducible exact chunk_Feed.mono _ _ _ _ _ _)
      | (with_reducible exact lockagelaw08_awake.mono _)
      | (with_reducible exact LeO.refl _)
      | (with_reducible exact LeO.none _)
      | (with_reducible refine LeO.ite ?_ ?_)
      | (with_reducible refine LeO.bind ?_ (fun _ => ?_))
      | exact ih0 _ _ _ _
      | exact chunk_Encode.mono _ _ _
      | exact chunk_Feed.mono _ _ _ _ _ _
      | exact lockagelaw08_awake.mono _
      | exact LeO.none _
      | refine LeO.ite ?_ ?_
      | refine LeO.bind ?_ (fun _ => ?_)
theorem lockagelaw08_ChunkBack.mono : ∀ a0 a1 a2 k, LeO (lockagelaw08_ChunkBack.f k a0 a1 a2) (lockagelaw08_ChunkBack.f (k + 1) a0 a1 a2) := by
  intro a0 a1 a2 k
  have ih0 := lockagelaw08_ChunkBack.mono_l k
  unfold lockagelaw08_ChunkBack.f
  repeat' first
      | (with_reducible exact ih0 _ _ _ _)
      | (with_reducible exact chunk_Encode.mono _ _ _)
      | (with_reducible exact chunk_Feed.mono _ _ _ _ _ _)
      | (with_reducible exact lockagelaw08_awake.mono _)
      | (with_reducible exact LeO.refl _)
      | (with_reducible exact LeO.none _)
      | (with_reducible refine LeO.ite ?_ ?_)
      | (with_reducible refine LeO.bind ?_ (fun _ => ?_))
      | exact ih0 _ _ _ _
      | exact chunk_Encode.mono _ _ _
      | exact chunk_Feed.mono _ _ _ _ _ _
      | exact lockagelaw08_awake.mono _
      | exact LeO.none _
      | refine LeO.ite ?_ ?_
      | refine LeO.bind ?_ (fun _ => ?_)
set_option maxHeartbeats 8000000 in
set_option maxRecDepth 100000 in
theorem lockagelaw08_ChunkBack.calls (k : Nat) (a0 : ByteArray) (a1 : Int) (a2 : ByteArray) (r : Bool) (w : World) (hG_ : H.GlobOk w) (h : lockagelaw08_ChunkBack.f k a0 a1 a2 = some r) :
    Calls Tryd.prog 8 #[.string a0, .int .u16 a1, .string a2] w fun e w' => e = .returned (.bool r) ∧ Below w.heap.size w w' := by
  have HG_ := Aside0.mk hG_
  clear hG_
  have hu23 := Tryd.underlying23
  have HB := Aside0.mk (Below.refl w.heap.size w)
  have H : ((lockagelaw08_awake.f k).bind fun t260 => (if t260 = true then (if (a0.size : Int) > 300 then (if 0 ≤ 300 then (if 300 ≤ (a0.size : Int) then (lockagelaw08_ChunkBack.j0 k (a0.extract 0 300) a1 a2 t260) else (none)) else (none)) else (lockagelaw08_ChunkBack.j0 k a0 a1 a2 t260)) else (none))) = some r := h
  clear h
  replace H := Option.bind_eq_some_iff.mp H
  obtain ⟨t260, A40, H⟩ := H
  replace H : (if t260 = true then (if (a0.size : Int) > 300 then (if 0 ≤ 300 then (if 300 ≤ (a0.size : Int) then (lockagelaw08_ChunkBack.j0 k (a0.extract 0 300) a1 a2 t260) else (none)) else (none)) else (lockagelaw08_ChunkBack.j0 k a0 a1 a2 t260)) else (none)) = some r := H
  have A4 := Aside0.mk A40
  clear A40
  by_cases c5 : t260 = true
  · subst c5
    have H1 : (if (a0.size : Int) > 300 then (if 0 ≤ 300 then (if 300 ≤ (a0.size : Int) then (lockagelaw08_ChunkBack.j0 k (a0.extract 0 300) a1 a2 true) else (none)) else (none)) else (lockagelaw08_ChunkBack.j0 k a0 a1 a2 true)) = some r := by rw [if_pos rfl] at H; exact H
    clear H
    have H := H1
    clear H1
    have HC6 := Aside0.mk H
    clear H
    go_enter Tryd.func8, Tryd.ntmps8
    go_upto_if 19 with (first | ((with_reducible refine gate_callee (f := 9) rfl ?_); refine goesL_ (some 14) rfl rfl Tryd.func9 (by kernel_rfl) rfl #[] rfl (by (try simp only [List.map_toArray, List.map_cons, List.map_nil]); first | done | rfl | (simp only [List.length_drop, List.length_take]; rfl)) ?_; (with_reducible refine (lockagelaw08_awake.calls k  true _ ?side1 A4.out).mono ?_); (case side1 => exact glob_below HG_.out (by repeat (first | (with_reducible first | exact HB.out | apply below_alloc | apply pw_below_drewN | apply below_drew1) | exact HB.out))); rintro e w7 ⟨rfl, hb⟩; refine ⟨_, rfl, ?_⟩; have n0_ := Aside0.mk (below_step (by repeat (first | (with_reducible first | exact HB.out | apply below_alloc | apply pw_below_drewN | apply below_drew1) | exact HB.out)) hb); clear HB; have HB := n0_; clear n0_; (try clear hb); (try clear hb2); (try clear hk); (try clear hi)))
    (try simp only [Act.put, List.setIfInBounds_toArray, List.set_cons_zero, List.set_cons_succ])
    go_cut [0] (fun v0 wc => ∃ (kq : Nat) (x0_5 : ByteArray), v0 = .string x0_5 ∧ Aside0 (lockagelaw08_ChunkBack.j0 kq x0_5 a1 a2 true = some r) ∧ Aside0 (kq ≤ k) ∧ Aside0 (Below w.heap.size w wc))
    case first =>
      have H := HC6.out
      clear HC6
      by_cases c8 : (a0.size : Int) > 300
      · rw [if_pos c8] at H
        have c8b0 : decide (300 < (a0.size : Int)) = true := decide_eq_true c8
        have c8b1 : decide (300 < a0.size) = true := decide_eq_true (by omega)
        clear c8
        (first | rw [c8b0] | (simp only [i64_w, i32_w]; rw [c8b0]) | skip)
        by_cases c9 : 0 ≤ 300
        · rw [if_pos c9] at H
          have c9b0 := eq_true c9
          have c9b1 : decide (0 ≤ 300) = true := decide_eq_true c9
          clear c9
          by_cases c10 : 300 ≤ (a0.size : Int)
          · rw [if_pos c10] at H
            have c10b0 := eq_true c10
            have c10b1 : decide (300 ≤ (a0.size : Int)) = true := decide_eq_true c10
            clear c10
            have H' := Aside0.mk H
            clear H
            go_wp2
            go_meet
            case rel => exact ⟨_, (a0.extract 0 300), (by first | rfl | (simp; done) | (simp [*]; done)), H', ⟨by first | omega | exact Nat.le_refl _⟩, ⟨by repeat (first | (with_reducible first | exact HB.out | apply below_alloc | apply pw_below_drewN | apply below_drew1) | exact HB.out)⟩⟩
          · rw [if_neg c10] at H
            exact absurd H (by simp)
        · rw [if_neg c9] at H
          exact absurd H (by simp)
      · rw [if_neg c8] at H
        have c8b0 : decide (300 < (a0.size : Int)) = false := decide_eq_false c8
        have c8b1 : decide (300 < a0.size) = false := decide_eq_false (by omega)
        clear c8
        (first | rw [c8b0] | (simp only [i64_w, i32_w]; rw [c8b0]) | skip)
        have H' := Aside0.mk H
        clear H
        go_wp2
        go_meet
        case rel => exact ⟨_, (a0), (by first | rfl | (simp; done) | (simp [*]; done)), H', ⟨by first | omega | exact Nat.le_refl _⟩, ⟨by repeat (first | (with_reducible first | exact HB.out | apply below_alloc | apply pw_below_drewN | apply below_drew1) | exact HB.out)⟩⟩
    case rest =>
      clear HC6
      try clear c1
      try clear p2
      try clear c5
      try clear c8
      try clear c8b0
      try clear c8b1
      try clear c9
      try clear c9b0
      try clear c9b1
      try clear c10
      try clear c10b0
      try clear c10b1
      obtain ⟨kq, x0_5, rfl, HA, HJ5, HB⟩ := hcut
      cases kq with
      | zero => exact absurd HA.out (by simp [lockagelaw08_ChunkBack.j0])
      | succ kj5 =>
        have H := HA.out
        clear HA
        simp only [lockagelaw08_ChunkBack.j0] at H
        replace H := Option.bind_eq_some_iff.mp H
        obtain ⟨⟨t261, t262⟩, A110, H⟩ := H
        replace H : (if t261.size + a2.size ≤ 9223372036854775807 then ((chunk_Feed.f kj5 0 0 (⟨#[]⟩ : ByteArray) 0 (t261 ++ a2)).bind fun bt263 => (if true = true then (if t262 = 0 then (if bt263.2.2.2.2.2.2 = 0 then (if bt263.2.2.2.2.2.1.toList = x0_5.toList then (if bt263.2.2.2.2.1 = (t261.size : Int) then (some (bt263.1 == 4 && (bt263.2.1 == 0 && (bt263.2.2.1.toList == ([] : List UInt8) && (bt263.2.2.2.1 == (x0_5.size : Int)))))) else (none)) else (none)) else (none)) else (none)) else (none))) else (none)) = some r := H
        have A11 := Aside0.mk A110
        clear A110
        by_cases c12 : t261.size + a2.size ≤ 9223372036854775807
        · rw [if_pos c12] at H
          have c12b0 := eq_true c12
          have c12b1 : decide (t261.size + a2.size ≤ 9223372036854775807) = true := decide_eq_true c12
          try have c12b2 : (9223372036854775807 < t261.size + a2.size) = False := eq_false (Nat.not_lt.2 c12)
          replace H := Option.bind_eq_some_iff.mp H
          obtain ⟨⟨t263, t264, t265, t266, t267, t268, t269⟩, A130, H⟩ := H
          replace H : (if true = true then (if t262 = 0 then (if t269 = 0 then (if t268.toList = x0_5.toList then (if t267 = (t261.size : Int) then (some (t263 == 4 && (t264 == 0 && (t265.toList == ([] : List UInt8) && (t266 == (x0_5.size : Int)))))) else (none)) else (none)) else (none)) else (none)) else (none)) = some r := H
          have A13 := Aside0.mk A130
          clear A130
          replace H : (if t262 = 0 then (if t269 = 0 then (if t268.toList = x0_5.toList then (if t267 = (t261.size : Int) then (some (t263 == 4 && (t264 == 0 && (t265.toList == ([] : List UInt8) && (t266 == (x0_5.size : Int)))))) else (none)) else (none)) else (none)) else (none)) = some r := by rw [if_pos rfl] at H; exact H
          by_cases c14 : t262 = 0
          · rw [if_pos c14] at H
            have c14b0 : (t262 == 0) = true := beq_iff_eq.mpr c14
            have c14b1 : (t262 != 0) = false := bne_eq_false_iff_eq.mpr c14
            clear c14
            by_cases c15 : t269 = 0
            · rw [if_pos c15] at H
              have c15b0 : (t269 == 0) = true := beq_iff_eq.mpr c15
              have c15b1 : (t269 != 0) = false := bne_eq_false_iff_eq.mpr c15
              clear c15
              by_cases c16 : t268.toList = x0_5.toList
              · rw [if_pos c16] at H
                have c16b0 : (t268.toList == x0_5.toList) = true := beq_iff_eq.mpr c16
                have c16b1 : (t268.toList != x0_5.toList) = false := bne_eq_false_iff_eq.mpr c16
                clear c16
                by_cases c17 : t267 = (t261.size : Int)
                · rw [if_pos c17] at H
                  have c17b0 : (t267 == (t261.size : Int)) = true := beq_iff_eq.mpr c17
                  have c17b1 : (t267 != (t261.size : Int)) = false := bne_eq_false_iff_eq.mpr c17
                  clear c17
                  obtain rfl := Option.some.inj H
                  go_wp2_with (first | ((with_reducible refine gate_callee (f := 13) rfl ?_); refine goesL_ (some 28) rfl rfl Tryd.func13 (by kernel_rfl) rfl #[.string x0_5, .int .i64 (wrap64 (1 + (Int.tmod (wrap64 (a1)) 4000)))] rfl (by (try simp only [List.map_toArray, List.map_cons, List.map_nil]); first | done | rfl | (simp only [List.length_drop, List.length_take]; rfl)) ?_; (with_reducible refine (chunk_Encode.calls kj5 x0_5 (wrap64 (1 + (Int.tmod (wrap64 (a1)) 4000))) t261 t262 _ ?side1 A11.out).mono ?_); (case side1 => exact glob_below HG_.out (by repeat (first | (with_reducible first | exact HB.out | apply below_alloc | apply pw_below_drewN | apply below_drew1) | exact HB.out))); rintro e w18 ⟨rfl, hb⟩; refine ⟨_, rfl, ?_⟩; have n0_ := Aside0.mk (below_step (by repeat (first | (with_reducible first | exact HB.out | apply below_alloc | apply pw_below_drewN | apply below_drew1) | exact HB.out)) hb); clear HB; have HB := n0_; clear n0_; (try clear hb); (try clear hb2); (try clear hk); (try clear hi)) | ((with_reducible refine gate_callee (f := 15) rfl ?_); refine goesL_ (some 36) rfl rfl Tryd.func15 (by kernel_rfl) rfl #[.agg #[.int .i64 0, .int .i64 0, .string (⟨#[]⟩ : ByteArray), .int .i64 0], .string (t261 ++ a2)] rfl (by (try simp only [List.map_toArray, List.map_cons, List.map_nil]); first | done | rfl | (simp only [List.length_drop, List.length_take]; rfl)) ?_; (with_reducible refine (chunk_Feed.calls kj5 0 0 (⟨#[]⟩ : ByteArray) 0 (t261 ++ a2) t263 t264 t265 t266 t267 t268 t269 _ A13.out).mono ?_); rintro e w19 ⟨rfl, hb⟩; refine ⟨_, rfl, ?_⟩; have n0_ := Aside0.mk (below_step (by repeat (first | (with_reducible first | exact HB.out | apply below_alloc | apply pw_below_drewN | apply below_drew1) | exact HB.out)) hb); clear HB; have HB := n0_; clear n0_; (try clear hb); (try clear hb2); (try clear hk); (try clear hi)) | ((with_reducible refine gate_dst (N := 10) rfl ?_); (try (refine gate_guard (by rfl) ?_; dsimp only)); refine box_event ?hg (N := 10) ?hd (cs := #[.int .i64 0, .int .i64 0, .string (⟨#[]⟩ : ByteArray), .int .i64 0]) (t := 23) ?hr ?_; (case hd => rfl); (case hg => rfl); (case hr => first | (go_simp; done) | (go_simp; rfl)); intro gb270 hg w20 hbox hb; have n0_ := Aside0.mk (below_step (by repeat (first | (with_reducible first | exact HB.out | apply below_alloc | apply pw_below_drewN | apply below_drew1) | exact HB.out)) hb); have n1_ := Aside0.mk (hbox); have n2_ := Aside0.mk ((by rw [hg]; exact (below_size (by repeat (first | (with_reducible first | exact HB.out | apply below_alloc | apply pw_below_drewN | apply below_drew1) | exact HB.out))) : w.heap.size ≤ gb270)); have n3_ := Aside0.mk ((by rw [hg]; exact (below_size (by repeat (first | (with_reducible first | exact HB.out | apply below_alloc | apply pw_below_drewN | apply below_drew1) | exact HB.out))) : w.heap.size ≤ gb270)); clear HB; have HB := n0_; have BK270 := n1_; have GW270 := n2_; have GE270 := n3_; clear n0_ n1_ n2_ n3_; clear hb hbox hg; have hcz21_0 : w20.cell? ⟨gb270, 0, none⟩ = some (.int .i64 0) := (blk_cell BK270.out 0).trans rfl; have hcz21_1 : w20.cell? ⟨gb270, 1, none⟩ = some (.int .i64 0) := (blk_cell BK270.out 1).trans rfl; have hcz21_2 : w20.cell? ⟨gb270, 2, none⟩ = some (.string (⟨#[]⟩ : ByteArray)) := (blk_cell BK270.out 2).trans rfl; have hcz21_3 : w20.cell? ⟨gb270, 3, none⟩ = some (.int .i64 0) := (blk_cell BK270.out 3).trans rfl; have hfz21_0 := blk_frozen BK270.out 0; have hfz21_1 := blk_frozen BK270.out 1; have hfz21_2 := blk_frozen BK270.out 2; have hfz21_3 := blk_frozen BK270.out 3))
                  go_ret
                  exact ⟨by first | rfl | (simp [errW_none, errW_some] <;> rfl) | (simp [*, errW_none, errW_some] <;> rfl), by repeat (first | (with_reducible first | exact HB.out | apply below_alloc | apply pw_below_drewN | apply below_drew1 | refine below_set ?_ GE270.out) | exact HB.out)⟩
                · rw [if_neg c17] at H
                  exact absurd H (by simp)
              · rw [if_neg c16] at H
                exact absurd H (by simp)
            · rw [if_neg c15] at H
              exact absurd H (by simp)
          · rw [if_neg c14] at H
            exact absurd H (by simp)
        · rw [if_neg c12] at H
          exact absurd H (by simp)
  · replace c5 := Bool.eq_false_iff.mpr c5
    subst c5
    have H1 : (none) = some r := by rw [if_neg (show ¬ (false = true) by decide)] at H; exact H
    clear H
    have H := H1
    clear H1
    exact absurd H (by simp)

/-- THE ONE PURE STATEMENT of lockagelaw08_ChunkBack: yours. -/
def lockagelaw08_ChunkBack.Pure : Prop := ∀ (a0 : ByteArray) (a1 : Int) (a2 : ByteArray), a0.size ≤ 140737488351232 → (Lit.int .u16 a1).wf = true → a2.size ≤ 140737488351232 → ∃ k, lockagelaw08_ChunkBack.f k a0 a1 a2 = some true

end Go.Proofs.YthemlbefkdmegaaDoor.P
