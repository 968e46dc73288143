/- Several parts together: The contract of message.End; awake of chapter 09: it answers true. -/
import Derived.Test.YtapeodbgobkjeaaGreatDoorHM9
import Derived.Test.YtapeodbgobkjeaaGreatDoorPx45
import Derived.Test.YtapeodbgobkjeaaGreatDoorPx28
set_option linter.unusedVariables false
set_option linter.unusedSimpArgs false
namespace Go.Proofs.YtapeodbgobkjeaaGreatDoor.P
open Go.RowKit Go.Shelf Go.Lib Go.Proofs.YtapeodbgobkjeaaGreatDoorW.PrintWords Go.Proofs.YtapeodbgobkjeaaGreatDoorW.PrintLast Go.Proofs.YtapeodbgobkjeaaGreatDoorW.PrintMore
def set7 (w : World) (g : Nat) (v0 v1 v2 v3 v4 v5 v6 : Value) : World := (((((((w.setCell ⟨g, 0, none⟩ v0).setCell ⟨g, 1, none⟩ v1).setCell ⟨g, 2, none⟩ v2).setCell ⟨g, 3, none⟩ v3).setCell ⟨g, 4, none⟩ v4).setCell ⟨g, 5, none⟩ v5).setCell ⟨g, 6, none⟩ v6)
theorem put7s {w : World} {g : Nat} {t : TypeId} {c0 c1 c2 c3 c4 c5 c6 : Value} (h : w.heap[g]? = some (.cells #[c0, c1, c2, c3, c4, c5, c6] t (0, 0))) (v0 v1 v2 v3 v4 v5 v6 : Value) : (set7 w g v0 v1 v2 v3 v4 v5 v6).heap[g]? = some (.cells #[v0, v1, v2, v3, v4, v5, v6] t (0, 0)) := p7_6 (p7_5 (p7_4 (p7_3 (p7_2 (p7_1 (p7_0 h))))))
theorem below_set7 {B : Nat} {w0 w : World} {g : Nat} (h : Below B w0 w) (hg : B ≤ g) (v0 v1 v2 v3 v4 v5 v6 : Value) : Below B w0 (set7 w g v0 v1 v2 v3 v4 v5 v6) := (((((((h.setCell (p := ⟨g, 0, none⟩) hg v0).setCell (p := ⟨g, 1, none⟩) hg v1).setCell (p := ⟨g, 2, none⟩) hg v2).setCell (p := ⟨g, 3, none⟩) hg v3).setCell (p := ⟨g, 4, none⟩) hg v4).setCell (p := ⟨g, 5, none⟩) hg v5).setCell (p := ⟨g, 6, none⟩) hg v6)
theorem far_set7 (w : World) (g k : Nat) (hk : k ≠ g) (v0 v1 v2 v3 v4 v5 v6 : Value) : (set7 w g v0 v1 v2 v3 v4 v5 v6).heap[k]? = w.heap[k]? := by
 unfold set7
 simp only [heap_set k hk]
theorem end_ret {R : Ending → World → Prop} (tmps : Array Value) (W : World) (g : Nat) (cs : Array Value) (v5 v6 : Value) (hcs : cs.size = 7) (h4 : tmps.getD 2 undef = .pointer (some ⟨g, 0, none⟩)) (h5 : tmps.getD 3 undef = v5) (h6 : tmps.getD 4 undef = v6)
  (hg : W.heap[g]? = some (.cells cs 49 (0, 0))) (h : R (.returned (.tuple #[.agg cs, v5, v6])) W) : bodyPost Tryz.prog Tryz.f26 R .ret ⟨tmps, []⟩ W := by
 subst h5 h6
 exact bodyPost_ret (results_list (rs := [.cell 2 49, .tmp 3, .tmp 4]) rfl (by simp) (.cell g 49 cs (0, 0) _ h4 hg Tryz.underlying49 rfl (by rw [hcs]; kernel_rfl) (.tmp (.tmp .nil)))) rfl h
set_option maxHeartbeats 6400000 in
set_option maxRecDepth 100000 in
theorem message_End.calls (k : Nat) (a0_0 : Bool) (a0_1 : ByteArray) (a0_2 : ByteArray) (a0_3 : Int) (a0_4 : Int) (a0_5 : ByteArray) (a0_6 : Int) (a0_7 : Int) (a0_8 : ByteArray) (a0_9 : Int) (a0_10 : ByteArray) (a0_11 : ByteArray) (a0_12 : Int) (a0_13 : ByteArray) (a0_14 : Int) (P0_15_ : Nat → Prop) (A0_15 : Option Addr) (c0_15 : Nat) (l0_15 : List S40) (a0_16 : Int) (r1 r2 : ByteArray) (r3 : Int) (r4 : ByteArray) (r5 : Int) (r6 : List S40) (r7 : ByteArray) (r8 : Bool) (r9 : Int) (w : World) (hs0_15 : Kd.V k40 40 w w.heap.size (fun k_ => P0_15_ k_) (.slice A0_15 l0_15.length c0_15) l0_15) (h : message_End.f k a0_0 a0_1 a0_2 a0_3 a0_4 a0_5 a0_6 a0_7 a0_8 a0_9 a0_10 a0_11 a0_12 a0_13 a0_14 l0_15 a0_16 = some (r1, r2, r3, r4, r5, r6, r7, r8, r9)) :
  Calls Tryz.prog 26 #[.agg #[.bool a0_0, .string a0_1, .string a0_2, .int .i64 a0_3, .int .i64 a0_4, .string a0_5, .int .i64 a0_6, .int .i64 a0_7, .string a0_8, .int .i64 a0_9, .string a0_10, .string a0_11, .int .i64 a0_12, .string a0_13, .int .i64 a0_14, .slice A0_15 l0_15.length c0_15, .int .i64 a0_16]] w fun e w' => ∃ v5_ : Value, e = .returned (.tuple #[.agg #[.string r1, .string r2, .int .i64 r3, .string r4, .int .i64 r5, v5_, .string r7], .bool r8, .int .i64 r9]) ∧ Kd.V k40 40 w' w.heap.size (fun k_ => (P0_15_ k_ ∨ w.heap.size ≤ k_)) v5_ r6 ∧ Below w.heap.size w w' := by
 unfold message_End.f at h
 obtain ⟨r, hR, h⟩ := Option.bind_eq_some_iff.1 h
 have HR := Lib.hid hR
 have H := Lib.hid h
 have HV := Lib.hid hs0_15
 have HVC := Lib.hid (Kd.V_reads' hs0_15)
 obtain ⟨bb, hbb⟩ : ∃ bb, bb = w.heap.size := ⟨_, rfl⟩
 clear hR h hs0_15
 obtain ⟨q0, q1⟩ := two_laid w (.cells #[.bool a0_0, .string a0_1, .string a0_2, .int .i64 a0_3, .int .i64 a0_4, .string a0_5, .int .i64 a0_6, .int .i64 a0_7, .string a0_8, .int .i64 a0_9, .string a0_10, .string a0_11, .int .i64 a0_12, .string a0_13, .int .i64 a0_14, .slice A0_15 l0_15.length c0_15, .int .i64 a0_16] 32) (.cells #[.string ⟨#[]⟩, .string ⟨#[]⟩, .int .i64 0, .string ⟨#[]⟩, .int .i64 0, .slice none 0 0, .string ⟨#[]⟩] 49)
 go_enter Tryz.func26, Tryz.ntmps26
 go_wp2_with ((with_reducible refine gate_dst (N := 6) rfl ?_); refine Kd.event_run rfl (run_load17 rfl rfl q0) ?_)
 have hbW := below_alloc (below_alloc (Below.refl w.heap.size w) (.cells #[.bool a0_0, .string a0_1, .string a0_2, .int .i64 a0_3, .int .i64 a0_4, .string a0_5, .int .i64 a0_6, .int .i64 a0_7, .string a0_8, .int .i64 a0_9, .string a0_10, .string a0_11, .int .i64 a0_12, .string a0_13, .int .i64 a0_14, .slice A0_15 l0_15.length c0_15, .int .i64 a0_16] 32)) (.cells #[.string ⟨#[]⟩, .string ⟨#[]⟩, .int .i64 0, .string ⟨#[]⟩, .int .i64 0, .slice none 0 0, .string ⟨#[]⟩] 49)
 have hsz : ((w.alloc (.cells #[.bool a0_0, .string a0_1, .string a0_2, .int .i64 a0_3, .int .i64 a0_4, .string a0_5, .int .i64 a0_6, .int .i64 a0_7, .string a0_8, .int .i64 a0_9, .string a0_10, .string a0_11, .int .i64 a0_12, .string a0_13, .int .i64 a0_14, .slice A0_15 l0_15.length c0_15, .int .i64 a0_16] 32)).alloc (.cells #[.string ⟨#[]⟩, .string ⟨#[]⟩, .int .i64 0, .string ⟨#[]⟩, .int .i64 0, .slice none 0 0, .string ⟨#[]⟩] 49)).heap.size = bb + 2 := by rw [hbb]; simp
 obtain ⟨W0, hW0⟩ : ∃ W0, W0 = (w.alloc (.cells #[.bool a0_0, .string a0_1, .string a0_2, .int .i64 a0_3, .int .i64 a0_4, .string a0_5, .int .i64 a0_6, .int .i64 a0_7, .string a0_8, .int .i64 a0_9, .string a0_10, .string a0_11, .int .i64 a0_12, .string a0_13, .int .i64 a0_14, .slice A0_15 l0_15.length c0_15, .int .i64 a0_16] 32)).alloc (.cells #[.string ⟨#[]⟩, .string ⟨#[]⟩, .int .i64 0, .string ⟨#[]⟩, .int .i64 0, .slice none 0 0, .string ⟨#[]⟩] 49) := ⟨_, rfl⟩
 rw [← hW0] at q0 q1 hbW hsz ⊢
 refine (message_Right.calls k a0_0 a0_1 a0_2 a0_3 a0_4 a0_5 a0_6 a0_7 a0_8 a0_9 a0_10 a0_11 a0_12 a0_13 a0_14 A0_15 c0_15 l0_15 a0_16 r W0 (Kd.C_below HVC.out.2.2 hbW) HVC.out.2.1 HR.out).mono ?_; rintro e w1 ⟨rfl, hB1⟩
 have HB1 := Lib.hid (hbW.trans (hB1.mono (by omega)))
 have hs1 := Nat.le_trans (Nat.le_of_eq hsz.symm) hB1.size
 rw [← hbb] at q0 q1
 have P0 := Lib.hid ((hB1.block bb (by omega)).trans q0)
 have P1 := Lib.hid ((hB1.block (bb + 1) (by omega)).trans q1)
 have HBB := Lib.hid hbb
 have HV1b := Lib.hid (Kd.V_below (Kd.V_bound HV.out) HB1.out)
 simp only [← hbb]
 clear hW0 q0 q1 hbW hsz hB1 hs1 hbb HR HVC HV
 obtain ⟨-, -, c2, c3, -, c5, -, -, -, -, c10, c11, c12, c13, c14, c15, c16, -⟩ := cz17 P0.out
 obtain ⟨z0, z1, z2, z3, z4, z5, z6, f0, f1, f2, f3, f4, f5, f6⟩ := cz7 P1.out
 have VF : ∀ (W : World) (m t : ByteArray) (sc : Int) (rs : ByteArray) (mi : Int) (u : Value) (bo : ByteArray), Below w.heap.size w W → Kd.V k40 40 W w.heap.size (fun k => P0_15_ k ∧ k < w.heap.size) (.slice A0_15 l0_15.length c0_15) l0_15 → Kd.V k40 40 (set7 W (bb + 1) (.string m) (.string t) (.int .i64 sc) (.string rs) (.int .i64 mi) u (.string bo)) w.heap.size (fun k_ => (P0_15_ k_ ∨ w.heap.size ≤ k_)) (.slice A0_15 l0_15.length c0_15) l0_15 := fun W m t sc rs mi u bo _ hv => Kd.V_mono (Kd.V_step hv (fun k hk _ => far_set7 _ _ _ (by have := hk.2; have := HBB.out; omega) _ _ _ _ _ _ _)) (fun k hk => .inl hk.1)
 have HVF := Lib.hid VF
 have hbg : w.heap.size ≤ bb + 1 := by have := HBB.out; omega
 have HBG := Lib.hid hbg
 clear VF hbg
 have hne : ¬ (bb = bb + 1) := by omega
 have hne2 : ¬ (bb + 1 = bb) := by omega
 cases r with
 | false =>
  have h := H.out
  rw [if_neg (by decide)] at h
  simp only [Option.some.injEq, Prod.mk.injEq] at h
  obtain ⟨rfl, rfl, rfl, rfl, rfl, rfl, rfl, rfl, rfl⟩ := h
  clear H
  go_wp2_with fail
  exact end_ret _ _ (bb + 1) _ _ _ rfl rfl rfl rfl (put7s P1.out _ _ _ _ _ _ _) ⟨.slice none 0 0, rfl, Kd.V_nil _ _ _ _ _, below_set7 HB1.out HBG.out _ _ _ _ _ _ _⟩
 | true =>
  have h := H.out
  rw [if_pos rfl] at h
  by_cases he : a0_16 = 0
  ·rw [if_pos he] at h
   have d1 : (a0_16 != 0) = false := bne_eq_false_iff_eq.mpr he
   by_cases h4 : a0_3 = 4
   ·rw [if_pos h4] at h
    have d2 : (a0_3 == 4) = true := beq_iff_eq.mpr h4
    simp only [Option.some.injEq, Prod.mk.injEq] at h
    obtain ⟨rfl, rfl, rfl, rfl, rfl, rfl, rfl, rfl, rfl⟩ := h
    clear H he h4
    go_wp2_with fail
    exact end_ret _ _ (bb + 1) _ _ _ rfl rfl rfl rfl (put7s P1.out _ _ _ _ _ _ _) ⟨.slice A0_15 l0_15.length c0_15, rfl, HVF.out _ _ _ _ _ _ _ _ HB1.out HV1b.out, below_set7 HB1.out HBG.out _ _ _ _ _ _ _⟩
   ·rw [if_neg h4] at h
    have d2 : (a0_3 == 4) = false := beq_eq_false_iff_ne.mpr h4
    by_cases h0 : a0_3 = 0
    ·rw [if_pos h0] at h
     have d3 : (a0_3 != 0) = false := bne_eq_false_iff_eq.mpr h0
     by_cases hh : a0_2.toList = []
     ·have d5 : (a0_2.toList != ([] : List UInt8)) = false := bne_eq_false_iff_eq.mpr hh
      have d6 : (!a0_2.toList.isEmpty) = false := congrArg not (List.isEmpty_iff.mpr hh)
      rw [d5] at h
      have HE : Hid (message_End.j0 k false = some (r1, r2, r3, r4, r5, r6, r7, r8, r9)) := Lib.hid h
      clear H he h4 h0 h hh
      go_wp2_with fail
      have h := HE.out
      cases k with
      | zero => exact absurd h (by simp [message_End.j0])
      | succ k =>
      rw [message_End.j0, if_neg (by decide)] at h
      simp only [Option.some.injEq, Prod.mk.injEq] at h
      obtain ⟨rfl, rfl, rfl, rfl, rfl, rfl, rfl, rfl, rfl⟩ := h
      exact end_ret _ _ (bb + 1) _ _ _ rfl rfl rfl rfl (put7s P1.out _ _ _ _ _ _ _) ⟨.slice none 0 0, rfl, Kd.V_nil _ _ _ _ _, below_set7 HB1.out HBG.out _ _ _ _ _ _ _⟩
     ·have d5 : (a0_2.toList != ([] : List UInt8)) = true := bne_iff_ne.mpr hh
      have d6 : (!a0_2.toList.isEmpty) = true := congrArg not (Bool.eq_false_iff.mpr (fun h => hh (List.isEmpty_iff.mp h)))
      rw [d5] at h
      have HE : Hid (message_End.j0 k true = some (r1, r2, r3, r4, r5, r6, r7, r8, r9)) := Lib.hid h
      clear H he h4 h0 h hh
      go_wp2_with fail
      have h := HE.out
      cases k with
      | zero => exact absurd h (by simp [message_End.j0])
      | succ k =>
      rw [message_End.j0, if_pos rfl] at h
      simp only [Option.some.injEq, Prod.mk.injEq] at h
      obtain ⟨rfl, rfl, rfl, rfl, rfl, rfl, rfl, rfl, rfl⟩ := h
      exact end_ret _ _ (bb + 1) _ _ _ rfl rfl rfl rfl (put7s P1.out _ _ _ _ _ _ _) ⟨.slice none 0 0, rfl, Kd.V_nil _ _ _ _ _, below_set7 HB1.out HBG.out _ _ _ _ _ _ _⟩
    ·rw [if_neg h0] at h
     have d3 : (a0_3 != 0) = true := bne_iff_ne.mpr h0
     rw [d3] at h
     have HE : Hid (message_End.j0 k true = some (r1, r2, r3, r4, r5, r6, r7, r8, r9)) := Lib.hid h
     clear H he h4 h0 h
     go_wp2_with fail
     have h := HE.out
     cases k with
     | zero => exact absurd h (by simp [message_End.j0])
     | succ k =>
     rw [message_End.j0, if_pos rfl] at h
     simp only [Option.some.injEq, Prod.mk.injEq] at h
     obtain ⟨rfl, rfl, rfl, rfl, rfl, rfl, rfl, rfl, rfl⟩ := h
     exact end_ret _ _ (bb + 1) _ _ _ rfl rfl rfl rfl (put7s P1.out _ _ _ _ _ _ _) ⟨.slice none 0 0, rfl, Kd.V_nil _ _ _ _ _, below_set7 HB1.out HBG.out _ _ _ _ _ _ _⟩
  ·rw [if_neg he] at h
   have d1 : (a0_16 != 0) = true := bne_iff_ne.mpr he
   simp only [Option.some.injEq, Prod.mk.injEq] at h
   obtain ⟨rfl, rfl, rfl, rfl, rfl, rfl, rfl, rfl, rfl⟩ := h
   clear H he
   go_wp2_with fail
   go_region
   all_goals
    go_wp2_with fail
    exact end_ret _ _ (bb + 1) _ _ _ rfl rfl rfl rfl (blk_drew (put7s P1.out _ _ _ _ _ _ _)) ⟨.slice none 0 0, rfl, Kd.V_nil _ _ _ _ _, below_drew1 (below_set7 HB1.out HBG.out _ _ _ _ _ _ _)⟩

end Go.Proofs.YtapeodbgobkjeaaGreatDoor.P
namespace Go.Proofs.YtapeodbgobkjeaaGreatDoor.P
open Go.RowKit Go.Shelf Go.Lib Go.Proofs.YtapeodbgobkjeaaGreatDoorW.PrintWords Go.Proofs.YtapeodbgobkjeaaGreatDoorW.PrintLast Go.Proofs.YtapeodbgobkjeaaGreatDoorW.PrintMore
def VarR (x : Rd) (v : Value) (W : World) : Prop := ∃ g A c, v = .pointer (some ⟨g, 0, none⟩) ∧ W.heap[g]? = some (.cells #[.bool x.ans, .string x.asked, .string x.head, .int .i64 x.kind, .int .i64 x.size, .string x.body, .int .i64 x.st, .int .i64 x.left, .string x.line, .int .i64 x.many, .string x.m, .string x.t, .int .i64 x.sc, .string x.rs, .int .i64 x.mi, .slice A x.fs.length c, .int .i64 x.er] 32 (0, 0)) ∧ Kd.V k40 40 W W.heap.size (fun _ => True) (.slice A x.fs.length c) x.fs
def CellL (o : Nat) (y : Value) (v : Value) (W : World) : Prop := ∃ g c, v = .slice (some ⟨g, 0, none⟩) 1 c ∧ W.cell? ⟨g, o, none⟩ = some y
def CellV (o : Nat) (y : Value) (v : Value) (W : World) : Prop := ∃ g, v = .pointer (some ⟨g, 0, none⟩) ∧ W.cell? ⟨g, o, none⟩ = some y
theorem VarR.below {x : Rd} {v : Value} {W W1 : World} (h : VarR x v W) (hb : Below W.heap.size W W1) : VarR x v W1 := by
 obtain ⟨g, A, c, h1, h2, h3⟩ := h
 exact ⟨g, A, c, h1, blk_below h2 hb, Kd.V_below h3 hb⟩
theorem CellL.below {o : Nat} {y v : Value} {W W1 : World} (h : CellL o y v W) (hb : Below W.heap.size W W1) : CellL o y v W1 := by
 obtain ⟨g, c, h1, h2⟩ := h
 exact ⟨g, c, h1, (hb.cell (p := ⟨g, o, none⟩) (World.block_lt_of_cell? W _ h2)).trans h2⟩
theorem CellV.below {o : Nat} {y v : Value} {W W1 : World} (h : CellV o y v W) (hb : Below W.heap.size W W1) : CellV o y v W1 := by
 obtain ⟨g, h1, h2⟩ := h
 exact ⟨g, h1, (hb.cell (p := ⟨g, o, none⟩) (World.block_lt_of_cell? W _ h2)).trans h2⟩
theorem CellL.of {W : World} {base : Nat} {ok : Nat → Prop} {v : Value} {m : S49} (h : Kd.N k49 49 W base ok v [m]) : CellL 6 (.string m.f1) v W ∧ CellL 1 (.string m.f0.f1) v W := by
 obtain ⟨g, cap, rfl, _, _, _⟩ := Kd.N_form h (by simp)
 obtain ⟨_, _, hr⟩ := Kd.V_reads' (Kd.N_V (base' := 0) h)
 obtain ⟨ad, ha, hc⟩ := hr.2.2 (by simp)
 injection ha with ha
 subst ha
 obtain ⟨cs, _, hK, hcell⟩ := hc 0 m rfl
 obtain ⟨A5, c5, rfl, _, _⟩ := k49_open hK
 have e : ∀ i, ((⟨g, 0, none⟩ : Addr).add (0 * k49.sz + i)) = ⟨g, i, none⟩ := fun i => by rw [Nat.zero_mul, Nat.zero_add]; unfold Addr.add; split <;> simp_all
 have h6 := hcell 6 _ rfl
 have h1 := hcell 1 _ rfl
 rw [e] at h6 h1
 exact ⟨⟨g, cap, rfl, h6⟩, ⟨g, cap, rfl, h1⟩⟩
theorem VarR.put {x : Rd} {W W1 : World} {A : Option Addr} {c : Nat} {base : Nat} {ok : Nat → Prop} (hv : Kd.V k40 40 W base ok (.slice A x.fs.length c) x.fs) {c0 c1 c2 c3 c4 c5 c6 c7 c8 c9 c10 c11 c12 c13 c14 c15 c16 : Value}
  (hw : W1 = set17 (W.alloc (.cells #[c0, c1, c2, c3, c4, c5, c6, c7, c8, c9, c10, c11, c12, c13, c14, c15, c16] 32)) W.heap.size (.bool x.ans) (.string x.asked) (.string x.head) (.int .i64 x.kind) (.int .i64 x.size) (.string x.body) (.int .i64 x.st) (.int .i64 x.left) (.string x.line) (.int .i64 x.many) (.string x.m) (.string x.t) (.int .i64 x.sc) (.string x.rs) (.int .i64 x.mi) (.slice A x.fs.length c) (.int .i64 x.er)) : VarR x (.pointer (some ⟨W.heap.size, 0, none⟩)) W1 ∧ Below W.heap.size W W1 := by
 have hn := heap_alloc_new W (.cells #[c0, c1, c2, c3, c4, c5, c6, c7, c8, c9, c10, c11, c12, c13, c14, c15, c16] 32)
 have hb0 := below_alloc (Below.refl W.heap.size W) (.cells #[c0, c1, c2, c3, c4, c5, c6, c7, c8, c9, c10, c11, c12, c13, c14, c15, c16] 32)
 generalize W.alloc (.cells #[c0, c1, c2, c3, c4, c5, c6, c7, c8, c9, c10, c11, c12, c13, c14, c15, c16] 32) = W0 at hw hn hb0
 have hb := below_set17 hb0 (Nat.le_refl _) (.bool x.ans) (.string x.asked) (.string x.head) (.int .i64 x.kind) (.int .i64 x.size) (.string x.body) (.int .i64 x.st) (.int .i64 x.left) (.string x.line) (.int .i64 x.many) (.string x.m) (.string x.t) (.int .i64 x.sc) (.string x.rs) (.int .i64 x.mi) (.slice A x.fs.length c) (.int .i64 x.er)
 have hc := put17s hn (.bool x.ans) (.string x.asked) (.string x.head) (.int .i64 x.kind) (.int .i64 x.size) (.string x.body) (.int .i64 x.st) (.int .i64 x.left) (.string x.line) (.int .i64 x.many) (.string x.m) (.string x.t) (.int .i64 x.sc) (.string x.rs) (.int .i64 x.mi) (.slice A x.fs.length c) (.int .i64 x.er)
 rw [← hw] at hb hc
 exact ⟨⟨W.heap.size, A, c, rfl, hc, Kd.V_mono (Kd.V_below (Kd.V_map (base' := W1.heap.size) hv (fun _ hf => hf)) hb) (fun _ _ => trivial)⟩, hb⟩
abbrev rdA : Rd := (⟨false, (⟨#[]⟩ : ByteArray), (⟨#[71, 69]⟩ : ByteArray), 0, 0, (⟨#[]⟩ : ByteArray), 0, 0, (⟨#[]⟩ : ByteArray), 0, (⟨#[]⟩ : ByteArray), (⟨#[]⟩ : ByteArray), 0, (⟨#[]⟩ : ByteArray), 0, [], 0⟩ : Rd)
abbrev rdB : Rd := (⟨false, (⟨#[]⟩ : ByteArray), (⟨#[]⟩ : ByteArray), 0, 0, (⟨#[]⟩ : ByteArray), 0, 0, (⟨#[]⟩ : ByteArray), 0, (⟨#[]⟩ : ByteArray), (⟨#[]⟩ : ByteArray), 0, (⟨#[]⟩ : ByteArray), 0, [], 0⟩ : Rd)
abbrev rdC : Rd := (⟨true, (⟨#[71, 69, 84]⟩ : ByteArray), (⟨#[]⟩ : ByteArray), 4, 0, (⟨#[97, 98]⟩ : ByteArray), 0, 0, (⟨#[]⟩ : ByteArray), 0, (⟨#[]⟩ : ByteArray), (⟨#[]⟩ : ByteArray), 200, (⟨#[79, 75]⟩ : ByteArray), 0, [], 0⟩ : Rd)
theorem aw_feed1 : message_Feed.f 100 false (⟨#[]⟩ : ByteArray) (⟨#[]⟩ : ByteArray) 0 0 (⟨#[]⟩ : ByteArray) 0 0 (⟨#[]⟩ : ByteArray) 0 (⟨#[]⟩ : ByteArray) (⟨#[]⟩ : ByteArray) 0 (⟨#[]⟩ : ByteArray) 0 [] 0 (⟨#[80, 79, 83, 84, 32, 47, 32, 72, 84, 84, 80, 47, 49, 46, 49, 13, 10, 67, 111, 110, 116, 101, 110, 116, 45, 76, 101, 110, 103, 116, 104, 58, 32, 50, 13, 10, 13, 10, 104, 105, 71, 69]⟩ : ByteArray) = some (false, (⟨#[]⟩ : ByteArray), (⟨#[71, 69]⟩ : ByteArray), 0, 0, (⟨#[]⟩ : ByteArray), 0, 0, (⟨#[]⟩ : ByteArray), 0, (⟨#[]⟩ : ByteArray), (⟨#[]⟩ : ByteArray), 0, (⟨#[]⟩ : ByteArray), 0, [], 0, [⟨⟨(⟨#[80, 79, 83, 84]⟩ : ByteArray), (⟨#[47]⟩ : ByteArray), 0, (⟨#[]⟩ : ByteArray), 1, [⟨(⟨#[67, 111, 110, 116, 101, 110, 116, 45, 76, 101, 110, 103, 116, 104]⟩ : ByteArray), (⟨#[50]⟩ : ByteArray)⟩]⟩, (⟨#[104, 105]⟩ : ByteArray)⟩], 0) := by kernel_rfl
theorem aw_feed2 : message_Feed.f 100 false (⟨#[]⟩ : ByteArray) (⟨#[71, 69]⟩ : ByteArray) 0 0 (⟨#[]⟩ : ByteArray) 0 0 (⟨#[]⟩ : ByteArray) 0 (⟨#[]⟩ : ByteArray) (⟨#[]⟩ : ByteArray) 0 (⟨#[]⟩ : ByteArray) 0 [] 0 (⟨#[84, 32, 47, 97, 32, 72, 84, 84, 80, 47, 49, 46, 48, 13, 10, 13, 10]⟩ : ByteArray) = some (false, (⟨#[]⟩ : ByteArray), (⟨#[]⟩ : ByteArray), 0, 0, (⟨#[]⟩ : ByteArray), 0, 0, (⟨#[]⟩ : ByteArray), 0, (⟨#[]⟩ : ByteArray), (⟨#[]⟩ : ByteArray), 0, (⟨#[]⟩ : ByteArray), 0, [], 0, [⟨⟨(⟨#[71, 69, 84]⟩ : ByteArray), (⟨#[47, 97]⟩ : ByteArray), 0, (⟨#[]⟩ : ByteArray), 0, []⟩, (⟨#[]⟩ : ByteArray)⟩], 0) := by kernel_rfl
theorem aw_feed3 : message_Feed.f 100 true (⟨#[71, 69, 84]⟩ : ByteArray) (⟨#[]⟩ : ByteArray) 0 0 (⟨#[]⟩ : ByteArray) 0 0 (⟨#[]⟩ : ByteArray) 0 (⟨#[]⟩ : ByteArray) (⟨#[]⟩ : ByteArray) 0 (⟨#[]⟩ : ByteArray) 0 [] 0 (⟨#[72, 84, 84, 80, 47, 49, 46, 48, 32, 50, 48, 48, 32, 79, 75, 13, 10, 13, 10, 97, 98]⟩ : ByteArray) = some (true, (⟨#[71, 69, 84]⟩ : ByteArray), (⟨#[]⟩ : ByteArray), 4, 0, (⟨#[97, 98]⟩ : ByteArray), 0, 0, (⟨#[]⟩ : ByteArray), 0, (⟨#[]⟩ : ByteArray), (⟨#[]⟩ : ByteArray), 200, (⟨#[79, 75]⟩ : ByteArray), 0, [], 0, [], 0) := by kernel_rfl
theorem aw_end1 : message_End.f 100 true (⟨#[71, 69, 84]⟩ : ByteArray) (⟨#[]⟩ : ByteArray) 4 0 (⟨#[97, 98]⟩ : ByteArray) 0 0 (⟨#[]⟩ : ByteArray) 0 (⟨#[]⟩ : ByteArray) (⟨#[]⟩ : ByteArray) 200 (⟨#[79, 75]⟩ : ByteArray) 0 [] 0 = some ((⟨#[]⟩ : ByteArray), (⟨#[]⟩ : ByteArray), 200, (⟨#[79, 75]⟩ : ByteArray), 0, [], (⟨#[97, 98]⟩ : ByteArray), true, 0) := by kernel_rfl
theorem aw_end2 : message_End.f 100 false (⟨#[]⟩ : ByteArray) (⟨#[71, 69]⟩ : ByteArray) 0 0 (⟨#[]⟩ : ByteArray) 0 0 (⟨#[]⟩ : ByteArray) 0 (⟨#[]⟩ : ByteArray) (⟨#[]⟩ : ByteArray) 0 (⟨#[]⟩ : ByteArray) 0 [] 0 = some ((⟨#[]⟩ : ByteArray), (⟨#[]⟩ : ByteArray), 0, (⟨#[]⟩ : ByteArray), 0, [], (⟨#[]⟩ : ByteArray), false, 22) := by kernel_rfl
theorem aw_print : message_Print.f 100 (⟨#[]⟩ : ByteArray) (⟨#[]⟩ : ByteArray) 200 (⟨#[]⟩ : ByteArray) 1 [] (⟨#[120]⟩ : ByteArray) true = some ((⟨#[72, 84, 84, 80, 47, 49, 46, 49, 32, 50, 48, 48, 32, 13, 10, 67, 111, 110, 116, 101, 110, 116, 45, 76, 101, 110, 103, 116, 104, 58, 32, 49, 13, 10, 13, 10, 120]⟩ : ByteArray), 0) := by kernel_rfl
theorem aw_right1 : message_Right.f 100 false (⟨#[]⟩ : ByteArray) (⟨#[71, 69]⟩ : ByteArray) 0 0 (⟨#[]⟩ : ByteArray) 0 0 (⟨#[]⟩ : ByteArray) 0 (⟨#[]⟩ : ByteArray) (⟨#[]⟩ : ByteArray) 0 (⟨#[]⟩ : ByteArray) 0 [] 0 = some true := by kernel_rfl
theorem aw_right2 : message_Right.f 100 false (⟨#[]⟩ : ByteArray) (⟨#[]⟩ : ByteArray) 0 0 (⟨#[120]⟩ : ByteArray) 0 0 (⟨#[]⟩ : ByteArray) 0 (⟨#[]⟩ : ByteArray) (⟨#[]⟩ : ByteArray) 0 (⟨#[]⟩ : ByteArray) 0 [] 0 = some false := by kernel_rfl
theorem ld17g {ops : Array Oper} {rest : List Oper} {o : Oper} {a : Act} {Q : Exit → Act → World → Prop} {W : World} {g : Nat} {p : Operand} {c0 c1 c2 c3 c4 c5 c6 c7 c8 c9 c10 c11 c12 c13 c14 c15 c16 : Value} (hw : Region.wanted o (yielded ops a.tmps) = true) (ho : o.op = .load 32 p) (hp : a.eval p = .pointer (some ⟨g, 0, none⟩)) (h : W.heap[g]? = some (.cells #[c0, c1, c2, c3, c4, c5, c6, c7, c8, c9, c10, c11, c12, c13, c14, c15, c16] 32 (0, 0))) (k : wpList Tryz.prog ops Q rest (a.put o.dst (.agg #[c0, c1, c2, c3, c4, c5, c6, c7, c8, c9, c10, c11, c12, c13, c14, c15, c16])) W) : wpList Tryz.prog ops Q (o :: rest) a W :=
 gate_guard hw (Kd.event_run (o := { o with guard := none }) rfl (run_load17 (o := { o with guard := none }) ho hp h) k)
def lockagelaw09_awake.f (k : Nat) : Option Bool := if 100 ≤ k then some true else none
theorem lockagelaw09_awake.mono : ∀ k, LeO (lockagelaw09_awake.f k) (lockagelaw09_awake.f (k + 1)) := by
 intro k r h
 unfold lockagelaw09_awake.f at h ⊢
 split at h
 ·rw [if_pos (by omega)]; exact h
 ·cases h
set_option maxHeartbeats 6400000 in
set_option maxRecDepth 100000 in
theorem lockagelaw09_awake.calls (k : Nat) (r : Bool) (w : World) (hG_ : H.GlobOk w) (h : lockagelaw09_awake.f k = some r) :
  Calls Tryz.prog 11 #[] w fun e w' => e = .returned (.bool r) ∧ Below w.heap.size w w' := by
 obtain rfl : r = true := by
  unfold lockagelaw09_awake.f at h
  split at h
  ·exact (Option.some.inj h).symm
  ·cases h
 clear h
 have HG := Lib.hid hG_
 clear hG_
 have F1 := Lib.hid aw_feed1
 have F2 := Lib.hid aw_feed2
 have F3 := Lib.hid aw_feed3
 go_enter Tryz.func11, Tryz.ntmps11
 go_upto_region 1 with (fail)
 go_cut [1, 2, 3] (fun v1 v2 v3 wc => Aside0 (VarR rdA v1 wc) ∧ Aside0 (CellL 6 (.string (⟨#[104, 105]⟩ : ByteArray)) v2 wc) ∧ v3 = .int .i64 0 ∧ Aside0 (Below w.heap.size w wc))
 case first =>
  go_wp2_with (first
   | (go_at_call 20; refine (new_any _ _ _).mono ?_; rintro e w1 ⟨rfl, hb⟩; have HB1 := Lib.hid hb; clear hb)
   | (go_at_call 19; refine (message_Feed.calls 100 _ _ _ _ _ _ _ _ _ _ _ _ _ _ _ (fun _ => False) _ _ [] _ _ _ _ _ _ _ _ _ _ _ _ _ _ _ _ _ _ _ _ _ _ (Kd.V_nil _ _ _ _ _) (glob_below HG.out HB1.out) F1.out).mono ?_; rintro e w2 ⟨v15, v17, rfl, ho0, ho1, hb⟩; obtain ⟨A15, c15, rfl⟩ := Kd.V_slice ho0; have HV := Lib.hid ho0; have HC := Lib.hid (CellL.of ho1).1; have HB2 := Lib.hid (HB1.out.trans (hb.mono HB1.out.size)); clear hb ho0 ho1)
   | ((with_reducible refine gate_store (t := 32) (p := 1) rfl ?_); refine store_event (t := 32) (p := 1) rfl rfl rfl (run_store17 rfl rfl rfl (heap_alloc_new _ _)) ?_; intro w3 hw; have HW := Lib.hid hw; clear hw))
  go_meet
  case rel =>
   obtain ⟨hv, hb⟩ := VarR.put (x := rdA) HV.out HW.out
   exact ⟨⟨hv⟩, ⟨HC.out.below hb⟩, rfl, ⟨HB2.out.trans (hb.mono HB2.out.size)⟩⟩
 case rest =>
 obtain ⟨HV1, HC1, rfl, HB⟩ := hcut
 obtain ⟨g1, A1, c1, rfl, hg1, hv1⟩ := HV1.out
 obtain ⟨l1, k1, rfl, -⟩ := HC1.out
 have G1 := Aside0.mk hg1
 have W1 := Aside0.mk hv1
 clear hg1 hv1 F1
 go_upto_region 2 with (fail)
 go_cut [5, 6] (fun v5 v6 wd => Aside0 (CellL 1 (.string (⟨#[47, 97]⟩ : ByteArray)) v5 wd) ∧ v6 = .int .i64 0 ∧ Aside0 (VarR rdA (.pointer (some ⟨g1, 0, none⟩)) wd) ∧ Aside0 (CellL 6 (.string (⟨#[104, 105]⟩ : ByteArray)) (.slice (some ⟨l1, 0, none⟩) 1 k1) wd) ∧ Aside0 (Below w.heap.size w wd))
 case first =>
  go_wp2_with (first
   | ((with_reducible refine gate_dst (N := 25) rfl ?_); refine Kd.event_run rfl (run_load17 rfl rfl G1.out) ?_)
   | (go_at_call 19; refine (message_Feed.calls 100 _ _ _ _ _ _ _ _ _ _ _ _ _ _ _ (fun _ => True) _ _ [] _ _ _ _ _ _ _ _ _ _ _ _ _ _ _ _ _ _ _ _ _ _ W1.out (glob_below HG.out HB.out) F2.out).mono ?_; rintro e w2 ⟨v15, v17, rfl, ho0, ho1, hb⟩; obtain ⟨A15, c15, rfl⟩ := Kd.V_slice ho0; have HV := Lib.hid ho0; have HC := Lib.hid (CellL.of ho1).2; have HBn := Lib.hid hb; clear hb ho0 ho1)
   | ((with_reducible refine gate_store (t := 32) (p := 4) rfl ?_); refine store_event (t := 32) (p := 4) rfl rfl rfl (run_store17 rfl rfl rfl (heap_alloc_new _ _)) ?_; intro w3 hw; have HW := Lib.hid hw; clear hw))
  go_meet
  case rel =>
   obtain ⟨hv, hb⟩ := VarR.put (x := rdB) HV.out HW.out
   have ht := HBn.out.trans (hb.mono HBn.out.size)
   exact ⟨⟨HC.out.below hb⟩, rfl, ⟨HV1.out.below ht⟩, ⟨HC1.out.below ht⟩, ⟨HB.out.trans (ht.mono HB.out.size)⟩⟩
 case rest =>
 clear HV1 HC1 HB G1 W1 F2
 obtain ⟨HC2, rfl, HV1, HC1, HB⟩ := hcut
 obtain ⟨l2, k2, rfl, -⟩ := HC2.out
 go_upto_region 3 with (fail)
 go_cut [7, 9] (fun v7 v9 wd => Aside0 (VarR rdC v7 wd) ∧ v9 = .int .i64 0 ∧ Aside0 (CellL 1 (.string (⟨#[47, 97]⟩ : ByteArray)) (.slice (some ⟨l2, 0, none⟩) 1 k2) wd) ∧ Aside0 (VarR rdA (.pointer (some ⟨g1, 0, none⟩)) wd) ∧ Aside0 (CellL 6 (.string (⟨#[104, 105]⟩ : ByteArray)) (.slice (some ⟨l1, 0, none⟩) 1 k1) wd) ∧ Aside0 (Below w.heap.size w wd))
 case first =>
  go_wp2_with (first
   | (go_at_call 20; refine (new_any _ _ _).mono ?_; rintro e w1 ⟨rfl, hb⟩; have HB1 := Lib.hid hb; have HBw := Lib.hid (HB.out.trans (hb.mono HB.out.size)); clear hb)
   | (go_at_call 19; refine (message_Feed.calls 100 _ _ _ _ _ _ _ _ _ _ _ _ _ _ _ (fun _ => False) _ _ [] _ _ _ _ _ _ _ _ _ _ _ _ _ _ _ _ _ _ _ _ _ _ (Kd.V_nil _ _ _ _ _) (glob_below HG.out HBw.out) F3.out).mono ?_; rintro e w2 ⟨v15, v17, rfl, ho0, ho1, hb⟩; obtain ⟨A15, c15, rfl⟩ := Kd.V_slice ho0; obtain ⟨A17, c17, rfl⟩ := Kd.N_slice ho1; have HV := Lib.hid ho0; have HBn := Lib.hid (HB1.out.trans (hb.mono HB1.out.size)); clear hb ho0 ho1)
   | ((with_reducible refine gate_store (t := 32) (p := 7) rfl ?_); refine store_event (t := 32) (p := 7) rfl rfl rfl (run_store17 rfl rfl rfl (heap_alloc_new _ _)) ?_; intro w3 hw; have HW := Lib.hid hw; clear hw))
  go_meet
  case rel =>
   obtain ⟨hv, hb⟩ := VarR.put (x := rdC) HV.out HW.out
   have ht := HBn.out.trans (hb.mono HBn.out.size)
   exact ⟨⟨hv⟩, rfl, ⟨HC2.out.below ht⟩, ⟨HV1.out.below ht⟩, ⟨HC1.out.below ht⟩, ⟨HB.out.trans (ht.mono HB.out.size)⟩⟩
 case rest =>
 clear HV1 HC1 HC2 HB F3
 obtain ⟨HV3, rfl, HC2, HV1, HC1, HB⟩ := hcut
 obtain ⟨g3, A3, c3, rfl, hg3, hv3⟩ := HV3.out
 have G3 := Aside0.mk hg3
 have W3 := Aside0.mk hv3
 clear hg3 hv3
 have E1 := Lib.hid aw_end1
 have E2 := Lib.hid aw_end2
 go_upto_region 4 with (fail)
 go_cut [10, 11, 12] (fun v10 v11 v12 wd => Aside0 (CellV 6 (.string (⟨#[97, 98]⟩ : ByteArray)) v10 wd) ∧ v11 = .bool true ∧ v12 = .int .i64 0 ∧ Aside0 (CellL 1 (.string (⟨#[47, 97]⟩ : ByteArray)) (.slice (some ⟨l2, 0, none⟩) 1 k2) wd) ∧ Aside0 (VarR rdA (.pointer (some ⟨g1, 0, none⟩)) wd) ∧ Aside0 (CellL 6 (.string (⟨#[104, 105]⟩ : ByteArray)) (.slice (some ⟨l1, 0, none⟩) 1 k1) wd) ∧ Aside0 (Below w.heap.size w wd))
 case first =>
  go_wp2_with (first
   | ((with_reducible refine gate_dst (N := 37) rfl ?_); refine Kd.event_run rfl (run_load17 rfl rfl G3.out) ?_)
   | (go_at_call 26; refine (message_End.calls 100 _ _ _ _ _ _ _ _ _ _ _ _ _ _ _ (fun _ => True) _ _ [] _ _ _ _ _ _ _ _ _ _ _ W3.out E1.out).mono ?_; rintro e w2 ⟨v5, rfl, ho0, hb⟩; obtain ⟨A5, c5, rfl⟩ := Kd.V_slice ho0; have HBn := Lib.hid hb; clear hb ho0))
  go_meet
  case rel =>
   have ht := fun o => HBn.out.trans ((below_alloc (Below.refl w2.heap.size w2) o).mono HBn.out.size)
   exact ⟨⟨⟨_, rfl, (blk_cell (heap_alloc_new w2 _) 6).trans rfl⟩⟩, rfl, rfl, ⟨HC2.out.below (ht _)⟩, ⟨HV1.out.below (ht _)⟩, ⟨HC1.out.below (ht _)⟩, ⟨HB.out.trans ((ht _).mono HB.out.size)⟩⟩
 case rest =>
 clear HV1 HC1 HC2 HB HV3 G3 W3 E1
 obtain ⟨HC3, rfl, rfl, HC2, HV1, HC1, HB⟩ := hcut
 obtain ⟨g4, rfl, -⟩ := HC3.out
 obtain ⟨g1', A1', c1', e1', hg1, hv1⟩ := HV1.out
 injection e1' with e1'
 injection e1' with e1'
 injection e1' with e1' _ _
 subst e1'
 have G1 := Aside0.mk hg1
 have W1 := Aside0.mk hv1
 clear hg1 hv1
 go_upto_region 5 with (fail)
 go_cut [15] (fun v15 wd => v15 = .int .i64 22 ∧ Aside0 (CellV 6 (.string (⟨#[97, 98]⟩ : ByteArray)) (.pointer (some ⟨g4, 0, none⟩)) wd) ∧ Aside0 (CellL 1 (.string (⟨#[47, 97]⟩ : ByteArray)) (.slice (some ⟨l2, 0, none⟩) 1 k2) wd) ∧ Aside0 (VarR rdA (.pointer (some ⟨g1, 0, none⟩)) wd) ∧ Aside0 (CellL 6 (.string (⟨#[104, 105]⟩ : ByteArray)) (.slice (some ⟨l1, 0, none⟩) 1 k1) wd) ∧ Aside0 (Below w.heap.size w wd))
 case first =>
  go_wp2_with (first
   | ((with_reducible refine gate_dst (N := 43) rfl ?_); refine Kd.event_run rfl (run_load17 rfl rfl G1.out) ?_)
   | (go_at_call 26; refine (message_End.calls 100 _ _ _ _ _ _ _ _ _ _ _ _ _ _ _ (fun _ => True) _ _ [] _ _ _ _ _ _ _ _ _ _ _ W1.out E2.out).mono ?_; rintro e w2 ⟨v5, rfl, ho0, hb⟩; obtain ⟨A5, c5, rfl⟩ := Kd.V_slice ho0; have HBn := Lib.hid hb; clear hb ho0))
  go_meet
  case rel =>
   have ht := fun o => HBn.out.trans ((below_alloc (Below.refl w2.heap.size w2) o).mono HBn.out.size)
   exact ⟨rfl, ⟨HC3.out.below (ht _)⟩, ⟨HC2.out.below (ht _)⟩, ⟨HV1.out.below (ht _)⟩, ⟨HC1.out.below (ht _)⟩, ⟨HB.out.trans ((ht _).mono HB.out.size)⟩⟩
 case rest =>
 clear HV1 HC1 HC2 HC3 HB G1 W1 E2
 obtain ⟨rfl, HC3, HC2, HV1, HC1, HB⟩ := hcut
 have PR := Lib.hid aw_print
 go_upto_region 6 with (fail)
 go_cut [16, 17] (fun v16 v17 wd => v16 = .string (⟨#[72, 84, 84, 80, 47, 49, 46, 49, 32, 50, 48, 48, 32, 13, 10, 67, 111, 110, 116, 101, 110, 116, 45, 76, 101, 110, 103, 116, 104, 58, 32, 49, 13, 10, 13, 10, 120]⟩ : ByteArray) ∧ v17 = .int .i64 0 ∧ Aside0 (CellV 6 (.string (⟨#[97, 98]⟩ : ByteArray)) (.pointer (some ⟨g4, 0, none⟩)) wd) ∧ Aside0 (CellL 1 (.string (⟨#[47, 97]⟩ : ByteArray)) (.slice (some ⟨l2, 0, none⟩) 1 k2) wd) ∧ Aside0 (VarR rdA (.pointer (some ⟨g1, 0, none⟩)) wd) ∧ Aside0 (CellL 6 (.string (⟨#[104, 105]⟩ : ByteArray)) (.slice (some ⟨l1, 0, none⟩) 1 k1) wd) ∧ Aside0 (Below w.heap.size w wd))
 case first =>
  go_wp2_with ((go_at_call 17; refine (message_Print.calls 100 _ _ _ _ _ none 0 [] _ _ _ _ _ ⟨rfl, by simp, fun h => by simp at h⟩ (Nat.le_refl _) (glob_below HG.out HB.out) PR.out).mono ?_; rintro e w2 ⟨rfl, hb⟩; have HBn := Lib.hid hb; clear hb))
  go_meet
  case rel =>
   have ht := HBn.out
   exact ⟨rfl, rfl, ⟨HC3.out.below ht⟩, ⟨HC2.out.below ht⟩, ⟨HV1.out.below ht⟩, ⟨HC1.out.below ht⟩, ⟨HB.out.trans (ht.mono HB.out.size)⟩⟩
 case rest =>
 clear HV1 HC1 HC2 HC3 HB PR
 obtain ⟨rfl, rfl, HC3, HC2, HV1, HC1, HB⟩ := hcut
 obtain ⟨g1', A1', c1', e1', hg1, hv1⟩ := HV1.out
 injection e1' with e1'
 injection e1' with e1'
 injection e1' with e1' _ _
 subst e1'
 have G1 := Aside0.mk hg1
 have W1 := Aside0.mk hv1
 obtain ⟨l1', k1', e1', hl1⟩ := HC1.out
 injection e1' with e1' _ _
 injection e1' with e1'
 injection e1' with e1' _ _
 subst e1'
 obtain ⟨l2', k2', e1', hl2⟩ := HC2.out
 injection e1' with e1' _ _
 injection e1' with e1'
 injection e1' with e1' _ _
 subst e1'
 obtain ⟨g4', e1', hg4⟩ := HC3.out
 injection e1' with e1'
 injection e1' with e1'
 injection e1' with e1' _ _
 subst e1'
 have h2 := (blk_cell hg1 2).trans rfl
 have R1 := Lib.hid aw_right1
 have R2 := Lib.hid aw_right2
 have HKC := Lib.hid (Kd.V_reads' hv1)
 clear hg1 hv1 HV1 HC1 HC2 HC3 W1
 go_wp2_with (first
  | ((with_reducible refine gate_dst (N := 119) rfl ?_); refine ld17g (by kernel_rfl) rfl rfl G1.out ?_)
  | (go_at_call 27; refine (message_Right.calls 100 _ _ _ _ _ _ _ _ _ _ _ _ _ _ _ _ _ _ _ _ _ HKC.out.2.2 HKC.out.2.1 R1.out).mono ?_; rintro e w2 ⟨rfl, hb⟩; have HBn := Lib.hid hb; clear hb R1 HKC)
  | (go_at_call 27; refine (message_Right.calls 100 _ _ _ _ _ _ _ _ _ _ _ _ _ _ _ none 0 [] _ _ _ ⟨rfl, by simp, fun h => by simp at h⟩ (Nat.le_refl _) R2.out).mono ?_; rintro e w3 ⟨rfl, hb⟩; have HBm := Lib.hid hb; clear hb))
 go_ret
 exact ⟨rfl, (HB.out.trans (HBn.out.mono HB.out.size)).trans (HBm.out.mono (HB.out.trans (HBn.out.mono HB.out.size)).size)⟩
end Go.Proofs.YtapeodbgobkjeaaGreatDoor.P
