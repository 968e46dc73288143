/- The contract of message.Feed. -/
import Derived.Test.YtapeodbgobkjeaaGreatDoorMQ
import Derived.Test.YtapeodbgobkjeaaGreatDoorMZ
import Derived.Test.YtapeodbgobkjeaaGreatDoorPx29
set_option linter.unusedVariables false
set_option linter.unusedSimpArgs false
namespace Go.Proofs.YtapeodbgobkjeaaGreatDoor.P
open Go.RowKit Go.Shelf Go.Lib Go.Proofs.YtapeodbgobkjeaaGreatDoorW.PrintWords Go.Proofs.YtapeodbgobkjeaaGreatDoorW.PrintLast Go.Proofs.YtapeodbgobkjeaaGreatDoorW.PrintMore
def message_Feed.f (k : Nat) (a0_0 : Bool) (a0_1 : ByteArray) (a0_2 : ByteArray) (a0_3 : Int) (a0_4 : Int) (a0_5 : ByteArray) (a0_6 : Int) (a0_7 : Int) (a0_8 : ByteArray) (a0_9 : Int) (a0_10 : ByteArray) (a0_11 : ByteArray) (a0_12 : Int) (a0_13 : ByteArray) (a0_14 : Int) (l0_15 : List S40) (a0_16 : Int) (a1 : ByteArray) : Option (Bool × ByteArray × ByteArray × Int × Int × ByteArray × Int × Int × ByteArray × Int × ByteArray × ByteArray × Int × ByteArray × Int × List S40 × Int × List S49 × Int) :=
 (message_Right.f k a0_0 a0_1 a0_2 a0_3 a0_4 a0_5 a0_6 a0_7 a0_8 a0_9 a0_10 a0_11 a0_12 a0_13 a0_14 l0_15 a0_16).bind fun r =>
  if r = true then
   (feedO k k a1 ⟨a0_0, a0_1, a0_2, a0_3, a0_4, a0_5, a0_6, a0_7, a0_8, a0_9, a0_10, a0_11, a0_12, a0_13, a0_14, l0_15, a0_16⟩ []).bind fun p => some (p.1.ans, p.1.asked, p.1.head, p.1.kind, p.1.size, p.1.body, p.1.st, p.1.left, p.1.line, p.1.many, p.1.m, p.1.t, p.1.sc, p.1.rs, p.1.mi, p.1.fs, p.1.er, p.2, p.1.er)
  else some (a0_0, a0_1, a0_2, a0_3, a0_4, a0_5, a0_6, a0_7, a0_8, a0_9, a0_10, a0_11, a0_12, a0_13, a0_14, l0_15, a0_16, [], 1)
theorem message_Feed.mono : ∀ a0 a1 a2 a3 a4 a5 a6 a7 a8 a9 a10 a11 a12 a13 a14 a15 a16 a17 k, LeO (message_Feed.f k a0 a1 a2 a3 a4 a5 a6 a7 a8 a9 a10 a11 a12 a13 a14 a15 a16 a17) (message_Feed.f (k + 1) a0 a1 a2 a3 a4 a5 a6 a7 a8 a9 a10 a11 a12 a13 a14 a15 a16 a17) := by
 intro a0 a1 a2 a3 a4 a5 a6 a7 a8 a9 a10 a11 a12 a13 a14 a15 a16 a17 k
 unfold message_Feed.f
 exact .bind (message_Right.mono _ _ _ _ _ _ _ _ _ _ _ _ _ _ _ _ _ _) fun r => .ite (.bind (feedO_mono _ _ _ _ _) fun p => .refl _) (.refl _)
theorem sz_list (x : ByteArray) : x.data.toList.length = x.size := by rw [Array.length_toList]; rfl
def szOf : Value → Nat
 | .string s => s.size
 | _ => 0
theorem feed9_ret {R : Ending → World → Prop} (tmps : Array Value) (W : World) (g : Nat) (cs : Array Value) (v5 v6 : Value) (hcs : cs.size = 17) (h4 : tmps.getD 4 undef = .pointer (some ⟨g, 0, none⟩)) (h5 : tmps.getD 5 undef = v5) (h6 : tmps.getD 6 undef = v6)
  (hg : W.heap[g]? = some (.cells cs 32 (0, 0))) (h : R (.returned (.tuple #[.agg cs, v5, v6])) W) : bodyPost Tryz.prog Tryz.f19 R .ret ⟨tmps, []⟩ W := by
 subst h5 h6
 exact bodyPost_ret (results_list (rs := [.cell 4 32, .tmp 5, .tmp 6]) rfl (by simp) (.cell g 32 cs (0, 0) _ h4 hg Tryz.underlying32 rfl (by rw [hcs]; kernel_rfl) (.tmp (.tmp .nil)))) rfl h
section
variable {P : Program} {ops : Array Oper} {a : Act} {W : World} {g : Nat} {o : Oper} {p x : Operand} {Kc : Act → World → Prop} {Q : Exit → Act → World → Prop} {E : Prop} {c0 c1 c2 c3 c4 c5 c6 c7 c8 c9 c10 c11 c12 c13 c14 c15 c16 c17 : Value}
end
set_option maxHeartbeats 6400000 in
set_option maxRecDepth 100000 in
theorem feed_no (k : Nat) (a0_0 : Bool) (a0_1 : ByteArray) (a0_2 : ByteArray) (a0_3 : Int) (a0_4 : Int) (a0_5 : ByteArray) (a0_6 : Int) (a0_7 : Int) (a0_8 : ByteArray) (a0_9 : Int) (a0_10 : ByteArray) (a0_11 : ByteArray) (a0_12 : Int) (a0_13 : ByteArray) (a0_14 : Int) (P0_15_ : Nat → Prop) (A0_15 : Option Addr) (c0_15 : Nat) (l0_15 : List S40) (a0_16 : Int) (a1 : ByteArray) (r1 : Bool) (r2 : ByteArray) (r3 : ByteArray) (r4 : Int) (r5 : Int) (r6 : ByteArray) (r7 : Int) (r8 : Int) (r9 : ByteArray) (r10 : Int) (r11 : ByteArray) (r12 : ByteArray) (r13 : Int) (r14 : ByteArray) (r15 : Int) (r16 : List S40) (r17 : Int) (r18 : List S49) (r19 : Int) (w : World) (hs0_15 : Kd.V k40 40 w w.heap.size (fun k_ => P0_15_ k_) (.slice A0_15 l0_15.length c0_15) l0_15) (hG_ : H.GlobOk w) (hR : message_Right.f k a0_0 a0_1 a0_2 a0_3 a0_4 a0_5 a0_6 a0_7 a0_8 a0_9 a0_10 a0_11 a0_12 a0_13 a0_14 l0_15 a0_16 = some false) (h : some (a0_0, a0_1, a0_2, a0_3, a0_4, a0_5, a0_6, a0_7, a0_8, a0_9, a0_10, a0_11, a0_12, a0_13, a0_14, l0_15, a0_16, ([] : List S49), (1 : Int)) = some (r1, r2, r3, r4, r5, r6, r7, r8, r9, r10, r11, r12, r13, r14, r15, r16, r17, r18, r19)) :
  Calls Tryz.prog 19 #[.agg #[.bool a0_0, .string a0_1, .string a0_2, .int .i64 a0_3, .int .i64 a0_4, .string a0_5, .int .i64 a0_6, .int .i64 a0_7, .string a0_8, .int .i64 a0_9, .string a0_10, .string a0_11, .int .i64 a0_12, .string a0_13, .int .i64 a0_14, .slice A0_15 l0_15.length c0_15, .int .i64 a0_16], .string a1] w fun e w' => ∃ v15_ v17_ : Value, e = .returned (.tuple #[.agg #[.bool r1, .string r2, .string r3, .int .i64 r4, .int .i64 r5, .string r6, .int .i64 r7, .int .i64 r8, .string r9, .int .i64 r10, .string r11, .string r12, .int .i64 r13, .string r14, .int .i64 r15, v15_, .int .i64 r17], v17_, .int .i64 r19]) ∧ Kd.V k40 40 w' w.heap.size (fun k_ => (P0_15_ k_ ∨ w.heap.size ≤ k_) ∧ some k_ ≠ (v17_ : Value).ownBlock) v15_ r16 ∧ Kd.N k49 49 w' w.heap.size (fun k_ => (P0_15_ k_ ∨ w.heap.size ≤ k_)) v17_ r18 ∧ Below w.heap.size w w' := by
 have HR := Lib.hid hR
 have H := Lib.hid h
 have HG := Lib.hid hG_
 have HV := Lib.hid hs0_15
 have HVC := Lib.hid (Kd.V_reads' hs0_15)
 obtain ⟨bb, hbb⟩ : ∃ bb, bb = w.heap.size := ⟨_, rfl⟩
 clear hR h hG_ hs0_15
 go_enter Tryz.func19, Tryz.ntmps19
 obtain ⟨q0, q1⟩ := two_laid w (.cells #[.bool a0_0, .string a0_1, .string a0_2, .int .i64 a0_3, .int .i64 a0_4, .string a0_5, .int .i64 a0_6, .int .i64 a0_7, .string a0_8, .int .i64 a0_9, .string a0_10, .string a0_11, .int .i64 a0_12, .string a0_13, .int .i64 a0_14, .slice A0_15 l0_15.length c0_15, .int .i64 a0_16] 32) (.cells #[.bool false, .string ⟨#[]⟩, .string ⟨#[]⟩, .int .i64 0, .int .i64 0, .string ⟨#[]⟩, .int .i64 0, .int .i64 0, .string ⟨#[]⟩, .int .i64 0, .string ⟨#[]⟩, .string ⟨#[]⟩, .int .i64 0, .string ⟨#[]⟩, .int .i64 0, .slice none 0 0, .int .i64 0] 32)
 go_wp2_with ((with_reducible refine gate_dst (N := 8) rfl ?_); refine Kd.event_run rfl (run_load17 rfl rfl q0) ?_)
 have hbW := below_alloc (below_alloc (Below.refl w.heap.size w) (.cells #[.bool a0_0, .string a0_1, .string a0_2, .int .i64 a0_3, .int .i64 a0_4, .string a0_5, .int .i64 a0_6, .int .i64 a0_7, .string a0_8, .int .i64 a0_9, .string a0_10, .string a0_11, .int .i64 a0_12, .string a0_13, .int .i64 a0_14, .slice A0_15 l0_15.length c0_15, .int .i64 a0_16] 32)) (.cells #[.bool false, .string ⟨#[]⟩, .string ⟨#[]⟩, .int .i64 0, .int .i64 0, .string ⟨#[]⟩, .int .i64 0, .int .i64 0, .string ⟨#[]⟩, .int .i64 0, .string ⟨#[]⟩, .string ⟨#[]⟩, .int .i64 0, .string ⟨#[]⟩, .int .i64 0, .slice none 0 0, .int .i64 0] 32)
 have hsz : ((w.alloc (.cells #[.bool a0_0, .string a0_1, .string a0_2, .int .i64 a0_3, .int .i64 a0_4, .string a0_5, .int .i64 a0_6, .int .i64 a0_7, .string a0_8, .int .i64 a0_9, .string a0_10, .string a0_11, .int .i64 a0_12, .string a0_13, .int .i64 a0_14, .slice A0_15 l0_15.length c0_15, .int .i64 a0_16] 32)).alloc (.cells #[.bool false, .string ⟨#[]⟩, .string ⟨#[]⟩, .int .i64 0, .int .i64 0, .string ⟨#[]⟩, .int .i64 0, .int .i64 0, .string ⟨#[]⟩, .int .i64 0, .string ⟨#[]⟩, .string ⟨#[]⟩, .int .i64 0, .string ⟨#[]⟩, .int .i64 0, .slice none 0 0, .int .i64 0] 32)).heap.size = bb + 2 := by rw [hbb]; simp
 obtain ⟨W0, hW0⟩ : ∃ W0, W0 = (w.alloc (.cells #[.bool a0_0, .string a0_1, .string a0_2, .int .i64 a0_3, .int .i64 a0_4, .string a0_5, .int .i64 a0_6, .int .i64 a0_7, .string a0_8, .int .i64 a0_9, .string a0_10, .string a0_11, .int .i64 a0_12, .string a0_13, .int .i64 a0_14, .slice A0_15 l0_15.length c0_15, .int .i64 a0_16] 32)).alloc (.cells #[.bool false, .string ⟨#[]⟩, .string ⟨#[]⟩, .int .i64 0, .int .i64 0, .string ⟨#[]⟩, .int .i64 0, .int .i64 0, .string ⟨#[]⟩, .int .i64 0, .string ⟨#[]⟩, .string ⟨#[]⟩, .int .i64 0, .string ⟨#[]⟩, .int .i64 0, .slice none 0 0, .int .i64 0] 32) := ⟨_, rfl⟩
 rw [← hW0] at q0 q1 hbW hsz ⊢
 refine (message_Right.calls k a0_0 a0_1 a0_2 a0_3 a0_4 a0_5 a0_6 a0_7 a0_8 a0_9 a0_10 a0_11 a0_12 a0_13 a0_14 A0_15 c0_15 l0_15 a0_16 _ W0 (Kd.C_below HVC.out.2.2 hbW) HVC.out.2.1 HR.out).mono ?_; rintro e w1 ⟨rfl, hB1⟩
 have HB1 := Lib.hid (hbW.trans (hB1.mono (by omega)))
 have hs1 := Nat.le_trans (Nat.le_of_eq hsz.symm) hB1.size
 rw [← hbb] at q0 q1
 have P0 := Lib.hid ((hB1.block bb (by omega)).trans q0)
 have P1 := Lib.hid ((hB1.block (bb + 1) (by omega)).trans q1)
 have HS1 := Lib.hid hs1
 have HBB := Lib.hid hbb
 have HV1 := Lib.hid (Kd.V_below HV.out HB1.out)
 have HV1b := Lib.hid (Kd.V_below (Kd.V_bound HV.out) HB1.out)
 have HG1 := Lib.hid (glob_below HG.out HB1.out)
 simp only [← hbb]
 clear hW0 q0 q1 hbW hsz hB1 hs1 hbb HR HVC HV HG
 have h := H.out
 simp only [Option.some.injEq, Prod.mk.injEq] at h
 obtain ⟨rfl, rfl, rfl, rfl, rfl, rfl, rfl, rfl, rfl, rfl, rfl, rfl, rfl, rfl, rfl, rfl, rfl, rfl, rfl⟩ := h
 clear H
 go_wp2_with (first
  | ((with_reducible refine gate_dst (N := 11) rfl ?_); refine Kd.event_run rfl (run_load17 rfl rfl P0.out) ?_)
  | ((with_reducible refine gate_store (t := 32) (p := 4) rfl ?_); refine store_event (t := 32) (p := 4) rfl rfl rfl (run_store17 rfl rfl rfl P1.out) ?_; intro w3 hw; have HW := Lib.hid hw; clear hw))
 have hw := HW.out
 subst hw
 refine feed9_ret _ _ (bb + 1) _ _ _ rfl rfl rfl rfl (put17s P1.out _ _ _ _ _ _ _ _ _ _ _ _ _ _ _ _ _) ⟨_, .slice none 0 0, rfl, ?_, Kd.N_nil _ _ _ _ _, below_set17 HB1.out (by rw [HBB.out]; omega) _ _ _ _ _ _ _ _ _ _ _ _ _ _ _ _ _⟩
 exact Kd.V_mono (Kd.V_step HV1b.out (fun k hk _ => far_set17 _ _ _ (by have := hk.2; have := HBB.out; omega) _ _ _ _ _ _ _ _ _ _ _ _ _ _ _ _ _)) (fun k hk => ⟨.inl hk.1, by simp [Value.ownBlock]⟩)
set_option maxHeartbeats 6400000 in
set_option maxRecDepth 100000 in
theorem feed_yes (k : Nat) (a0_0 : Bool) (a0_1 : ByteArray) (a0_2 : ByteArray) (a0_3 : Int) (a0_4 : Int) (a0_5 : ByteArray) (a0_6 : Int) (a0_7 : Int) (a0_8 : ByteArray) (a0_9 : Int) (a0_10 : ByteArray) (a0_11 : ByteArray) (a0_12 : Int) (a0_13 : ByteArray) (a0_14 : Int) (P0_15_ : Nat → Prop) (A0_15 : Option Addr) (c0_15 : Nat) (l0_15 : List S40) (a0_16 : Int) (a1 : ByteArray) (r1 : Bool) (r2 : ByteArray) (r3 : ByteArray) (r4 : Int) (r5 : Int) (r6 : ByteArray) (r7 : Int) (r8 : Int) (r9 : ByteArray) (r10 : Int) (r11 : ByteArray) (r12 : ByteArray) (r13 : Int) (r14 : ByteArray) (r15 : Int) (r16 : List S40) (r17 : Int) (r18 : List S49) (r19 : Int) (w : World) (hs0_15 : Kd.V k40 40 w w.heap.size (fun k_ => P0_15_ k_) (.slice A0_15 l0_15.length c0_15) l0_15) (hG_ : H.GlobOk w) (hR : message_Right.f k a0_0 a0_1 a0_2 a0_3 a0_4 a0_5 a0_6 a0_7 a0_8 a0_9 a0_10 a0_11 a0_12 a0_13 a0_14 l0_15 a0_16 = some true) (y : Rd) (oy : List S49) (hl : feedO k k a1 ⟨a0_0, a0_1, a0_2, a0_3, a0_4, a0_5, a0_6, a0_7, a0_8, a0_9, a0_10, a0_11, a0_12, a0_13, a0_14, l0_15, a0_16⟩ [] = some (y, oy)) (h : some (y.ans, y.asked, y.head, y.kind, y.size, y.body, y.st, y.left, y.line, y.many, y.m, y.t, y.sc, y.rs, y.mi, y.fs, y.er, oy, y.er) = some (r1, r2, r3, r4, r5, r6, r7, r8, r9, r10, r11, r12, r13, r14, r15, r16, r17, r18, r19)) :
  Calls Tryz.prog 19 #[.agg #[.bool a0_0, .string a0_1, .string a0_2, .int .i64 a0_3, .int .i64 a0_4, .string a0_5, .int .i64 a0_6, .int .i64 a0_7, .string a0_8, .int .i64 a0_9, .string a0_10, .string a0_11, .int .i64 a0_12, .string a0_13, .int .i64 a0_14, .slice A0_15 l0_15.length c0_15, .int .i64 a0_16], .string a1] w fun e w' => ∃ v15_ v17_ : Value, e = .returned (.tuple #[.agg #[.bool r1, .string r2, .string r3, .int .i64 r4, .int .i64 r5, .string r6, .int .i64 r7, .int .i64 r8, .string r9, .int .i64 r10, .string r11, .string r12, .int .i64 r13, .string r14, .int .i64 r15, v15_, .int .i64 r17], v17_, .int .i64 r19]) ∧ Kd.V k40 40 w' w.heap.size (fun k_ => (P0_15_ k_ ∨ w.heap.size ≤ k_) ∧ some k_ ≠ (v17_ : Value).ownBlock) v15_ r16 ∧ Kd.N k49 49 w' w.heap.size (fun k_ => (P0_15_ k_ ∨ w.heap.size ≤ k_)) v17_ r18 ∧ Below w.heap.size w w' := by
 have HR := Lib.hid hR
 have H := Lib.hid h
 have HG := Lib.hid hG_
 have HV := Lib.hid hs0_15
 have HVC := Lib.hid (Kd.V_reads' hs0_15)
 obtain ⟨bb, hbb⟩ : ∃ bb, bb = w.heap.size := ⟨_, rfl⟩
 have HL := Lib.hid hl
 clear hR h hG_ hs0_15 hl
 go_enter Tryz.func19, Tryz.ntmps19
 obtain ⟨q0, q1⟩ := two_laid w (.cells #[.bool a0_0, .string a0_1, .string a0_2, .int .i64 a0_3, .int .i64 a0_4, .string a0_5, .int .i64 a0_6, .int .i64 a0_7, .string a0_8, .int .i64 a0_9, .string a0_10, .string a0_11, .int .i64 a0_12, .string a0_13, .int .i64 a0_14, .slice A0_15 l0_15.length c0_15, .int .i64 a0_16] 32) (.cells #[.bool false, .string ⟨#[]⟩, .string ⟨#[]⟩, .int .i64 0, .int .i64 0, .string ⟨#[]⟩, .int .i64 0, .int .i64 0, .string ⟨#[]⟩, .int .i64 0, .string ⟨#[]⟩, .string ⟨#[]⟩, .int .i64 0, .string ⟨#[]⟩, .int .i64 0, .slice none 0 0, .int .i64 0] 32)
 go_wp2_with ((with_reducible refine gate_dst (N := 8) rfl ?_); refine Kd.event_run rfl (run_load17 rfl rfl q0) ?_)
 have hbW := below_alloc (below_alloc (Below.refl w.heap.size w) (.cells #[.bool a0_0, .string a0_1, .string a0_2, .int .i64 a0_3, .int .i64 a0_4, .string a0_5, .int .i64 a0_6, .int .i64 a0_7, .string a0_8, .int .i64 a0_9, .string a0_10, .string a0_11, .int .i64 a0_12, .string a0_13, .int .i64 a0_14, .slice A0_15 l0_15.length c0_15, .int .i64 a0_16] 32)) (.cells #[.bool false, .string ⟨#[]⟩, .string ⟨#[]⟩, .int .i64 0, .int .i64 0, .string ⟨#[]⟩, .int .i64 0, .int .i64 0, .string ⟨#[]⟩, .int .i64 0, .string ⟨#[]⟩, .string ⟨#[]⟩, .int .i64 0, .string ⟨#[]⟩, .int .i64 0, .slice none 0 0, .int .i64 0] 32)
 have hsz : ((w.alloc (.cells #[.bool a0_0, .string a0_1, .string a0_2, .int .i64 a0_3, .int .i64 a0_4, .string a0_5, .int .i64 a0_6, .int .i64 a0_7, .string a0_8, .int .i64 a0_9, .string a0_10, .string a0_11, .int .i64 a0_12, .string a0_13, .int .i64 a0_14, .slice A0_15 l0_15.length c0_15, .int .i64 a0_16] 32)).alloc (.cells #[.bool false, .string ⟨#[]⟩, .string ⟨#[]⟩, .int .i64 0, .int .i64 0, .string ⟨#[]⟩, .int .i64 0, .int .i64 0, .string ⟨#[]⟩, .int .i64 0, .string ⟨#[]⟩, .string ⟨#[]⟩, .int .i64 0, .string ⟨#[]⟩, .int .i64 0, .slice none 0 0, .int .i64 0] 32)).heap.size = bb + 2 := by rw [hbb]; simp
 obtain ⟨W0, hW0⟩ : ∃ W0, W0 = (w.alloc (.cells #[.bool a0_0, .string a0_1, .string a0_2, .int .i64 a0_3, .int .i64 a0_4, .string a0_5, .int .i64 a0_6, .int .i64 a0_7, .string a0_8, .int .i64 a0_9, .string a0_10, .string a0_11, .int .i64 a0_12, .string a0_13, .int .i64 a0_14, .slice A0_15 l0_15.length c0_15, .int .i64 a0_16] 32)).alloc (.cells #[.bool false, .string ⟨#[]⟩, .string ⟨#[]⟩, .int .i64 0, .int .i64 0, .string ⟨#[]⟩, .int .i64 0, .int .i64 0, .string ⟨#[]⟩, .int .i64 0, .string ⟨#[]⟩, .string ⟨#[]⟩, .int .i64 0, .string ⟨#[]⟩, .int .i64 0, .slice none 0 0, .int .i64 0] 32) := ⟨_, rfl⟩
 rw [← hW0] at q0 q1 hbW hsz ⊢
 refine (message_Right.calls k a0_0 a0_1 a0_2 a0_3 a0_4 a0_5 a0_6 a0_7 a0_8 a0_9 a0_10 a0_11 a0_12 a0_13 a0_14 A0_15 c0_15 l0_15 a0_16 _ W0 (Kd.C_below HVC.out.2.2 hbW) HVC.out.2.1 HR.out).mono ?_; rintro e w1 ⟨rfl, hB1⟩
 have HB1 := Lib.hid (hbW.trans (hB1.mono (by omega)))
 have hs1 := Nat.le_trans (Nat.le_of_eq hsz.symm) hB1.size
 rw [← hbb] at q0 q1
 have P0 := Lib.hid ((hB1.block bb (by omega)).trans q0)
 have P1 := Lib.hid ((hB1.block (bb + 1) (by omega)).trans q1)
 have HS1 := Lib.hid hs1
 have HBB := Lib.hid hbb
 have HV1 := Lib.hid (Kd.V_below HV.out HB1.out)
 have HV1b := Lib.hid (Kd.V_below (Kd.V_bound HV.out) HB1.out)
 have HG1 := Lib.hid (glob_below HG.out HB1.out)
 simp only [← hbb]
 clear hW0 q0 q1 hbW hsz hB1 hs1 hbb HR HVC HV HG
 have h := H.out
 simp only [Option.some.injEq, Prod.mk.injEq] at h
 obtain ⟨rfl, rfl, rfl, rfl, rfl, rfl, rfl, rfl, rfl, rfl, rfl, rfl, rfl, rfl, rfl, rfl, rfl, rfl, rfl⟩ := h
 clear H
 obtain ⟨ok, hok⟩ : ∃ ok : Nat → Prop, ok = fun k => (P0_15_ k ∧ k < w.heap.size) ∨ w1.heap.size ≤ k := ⟨_, rfl⟩
 have HOK : Hid (∀ k, w1.heap.size ≤ k → ok k) := Lib.hid (fun k hk => by rw [hok]; exact .inr hk)
 have HOKr : Hid (∀ k, ok k → (P0_15_ k ∨ w.heap.size ≤ k) ∧ k ≠ bb + 1) := Lib.hid (fun k hk => by
  rw [hok] at hk
  have h1 := HS1.out
  have h2 := HBB.out
  rcases hk with hk | hk
  ·exact ⟨.inl hk.1, by have := hk.2; omega⟩
  ·exact ⟨.inr (by omega), by omega⟩)
 have HR0 : Hid (RdAt w1.heap.size w1.heap.size ok ⟨a0_0, a0_1, a0_2, a0_3, a0_4, a0_5, a0_6, a0_7, a0_8, a0_9, a0_10, a0_11, a0_12, a0_13, a0_14, l0_15, a0_16⟩ [] (w1.alloc (.cells #[.bool a0_0, .string a0_1, .string a0_2, .int .i64 a0_3, .int .i64 a0_4, .string a0_5, .int .i64 a0_6, .int .i64 a0_7, .string a0_8, .int .i64 a0_9, .string a0_10, .string a0_11, .int .i64 a0_12, .string a0_13, .int .i64 a0_14, .slice A0_15 l0_15.length c0_15, .int .i64 a0_16, .slice none 0 0] 75))) := Lib.hid ⟨Nat.le_refl _, .slice A0_15 l0_15.length c0_15, .slice none 0 0, heap_alloc_new w1 _,
  Kd.V_alloc (Kd.V_mono HV1b.out (fun k hk => ⟨⟨by rw [hok]; exact .inl hk, by have := hk.2; have := HS1.out; have := HBB.out; omega⟩, by simp [Value.ownBlock]⟩)) _, Kd.N_nil _ _ _ _ _⟩
 have HB0 : Hid (Below w1.heap.size w1 (w1.alloc (.cells #[.bool a0_0, .string a0_1, .string a0_2, .int .i64 a0_3, .int .i64 a0_4, .string a0_5, .int .i64 a0_6, .int .i64 a0_7, .string a0_8, .int .i64 a0_9, .string a0_10, .string a0_11, .int .i64 a0_12, .string a0_13, .int .i64 a0_14, .slice A0_15 l0_15.length c0_15, .int .i64 a0_16, .slice none 0 0] 75))) := Lib.hid (below_alloc (Below.refl _ _) _)
 clear hok HV1 HV1b
 go_wp2_with ((with_reducible refine gate_dst (N := 12) rfl ?_); refine Kd.event_run rfl (run_load17 rfl rfl P0.out) ?_)
 generalize w1.alloc (.cells #[.bool a0_0, .string a0_1, .string a0_2, .int .i64 a0_3, .int .i64 a0_4, .string a0_5, .int .i64 a0_6, .int .i64 a0_7, .string a0_8, .int .i64 a0_9, .string a0_10, .string a0_11, .int .i64 a0_12, .string a0_13, .int .i64 a0_14, .slice A0_15 l0_15.length c0_15, .int .i64 a0_16, .slice none 0 0] 75) = W2 at HR0 HB0 ⊢
 go_loopw [1] (fun v1 wr => ∃ (n : Nat) (si : ByteArray) (xi : Rd) (oi : List S49), v1 = .string si ∧ Hid (feedO k n si xi oi = some (y, oy)) ∧ Hid (RdAt w1.heap.size w1.heap.size ok xi oi wr) ∧ Hid (Below w1.heap.size w1 wr)) (fun v1 _ => szOf v1)
 case atStart => exact ⟨k, a1, _, [], rfl, HL, HR0, HB0⟩
 case round =>
  obtain ⟨n, si, xi, oi, rfl, HF, HRi, HBi⟩ := hrel
  clear HL HR0 HB0
  have hf := HF.out
  cases n with
  | zero => simp [feedO] at hf
  | succ n =>
  rw [feedO] at hf
  by_cases hz : si.size = 0
  ·rw [if_pos hz] at hf
   have EQ : Hid (xi = y ∧ oi = oy) := Lib.hid (by simpa using hf)
   have hl0 : si.toList = [] := by rw [toList_data]; exact List.eq_nil_of_length_eq_zero (by rw [sz_list]; exact hz)
   have d1 : (si.toList != []) = false := by rw [hl0]; rfl
   have d2 : (!si.toList.isEmpty) = false := by rw [hl0]; rfl
   have d3 : si.toList.isEmpty = true := by rw [hl0]; rfl
   clear hf HF hl0 hz
   obtain ⟨A2, k2, v2, hv2, H1, H2, H3⟩ := HRi.out.cells
   obtain ⟨A7, k7, rfl⟩ := Kd.N_slice H3.out
   have c16 : wr.cell? ⟨w1.heap.size, 16, none⟩ = some (.int .i64 xi.er) := (blk_cell H1.out 16).trans rfl
   have P1r := Lib.hid ((HBi.out.block (bb + 1) (by have := HS1.out; omega)).trans P1.out)
   have P1d := Lib.hid (blk_drew P1r.out)
   have hne : w1.heap.size ≠ bb + 1 := by have := HS1.out; omega
   have HNE := Lib.hid hne
   clear hv2 P1r hne
   go_upto_region 8 with (fail)
   clear c16
   refine start_ (n := 16) (S := fun w' => w'.heap[w1.heap.size]? = some (.cells #[.bool xi.ans, .string xi.asked, .string xi.head, .int .i64 xi.kind, .int .i64 xi.size, .string xi.body, .int .i64 xi.st, .int .i64 xi.left, .string xi.line, .int .i64 xi.many, .string xi.m, .string xi.t, .int .i64 xi.sc, .string xi.rs, .int .i64 xi.mi, .slice A2 xi.fs.length k2, .int .i64 xi.er, .slice A7 oi.length k7] 75 (0, 0))) (ds := []) #[false, false, false, false, false, false, false, false, false, false, false, false, false, false, false, false] (by kernel_rfl) rfl rfl (blk_drew H1.out) (fun hHeld => ?_)
   refine pure_ (i := 0) (N := some 38) (v := ?_) (a' := ?_) #[true, false, false, false, false, false, false, false, false, false, false, false, false, false, false, false] rfl rfl (by kernel_rfl) (fun _ _ _ h => h) (Or.inl ⟨by rfl, ?_⟩) ?_ ?_
   rotate_left
   ·intro w'; go_simp; with_reducible rfl
   rotate_left
   ·simp only [Act.put, List.setIfInBounds_toArray, List.set_cons_zero, List.set_cons_succ, i64_w, i32_w]; rfl
   refine pure_ (i := 1) (N := some 39) (v := ?_) (a' := ?_) #[true, true, false, false, false, false, false, false, false, false, false, false, false, false, false, false] rfl rfl (by kernel_rfl) (fun _ _ _ h => h) (Or.inl ⟨by rfl, ?_⟩) ?_ ?_
   rotate_left
   ·intro w'; go_simp; with_reducible rfl
   rotate_left
   ·simp only [Act.put, List.setIfInBounds_toArray, List.set_cons_zero, List.set_cons_succ, i64_w, i32_w]; rfl
   refine pure_ (i := 2) (N := some 40) (v := ?_) (a' := ?_) #[true, true, true, false, false, false, false, false, false, false, false, false, false, false, false, false] rfl rfl (by kernel_rfl) (fun _ _ _ h => h) (Or.inl ⟨by rfl, ?_⟩) ?_ ?_
   rotate_left
   ·intro w'; go_simp; with_reducible rfl
   rotate_left
   ·simp only [Act.put, List.setIfInBounds_toArray, List.set_cons_zero, List.set_cons_succ, i64_w, i32_w]; rfl
   refine take_ (i := 3) (N := some 41) (v := .agg #[.bool xi.ans, .string xi.asked, .string xi.head, .int .i64 xi.kind, .int .i64 xi.size, .string xi.body, .int .i64 xi.st, .int .i64 xi.left, .string xi.line, .int .i64 xi.many, .string xi.m, .string xi.t, .int .i64 xi.sc, .string xi.rs, .int .i64 xi.mi, .slice A2 xi.fs.length k2, .int .i64 xi.er]) (a' := ?_) #[true, true, true, true, false, false, false, false, false, false, false, false, false, false, false, false] rfl rfl (by kernel_rfl) (fun _ _ _ h => h) (Or.inl ⟨by rfl, ?_⟩) hHeld ?_ ?_
   ·intro w' hs; refine run_load18 (p := .tmp 40) ?_ ?_ hs <;> rfl
   rotate_left
   ·simp only [Act.put, List.setIfInBounds_toArray, List.set_cons_zero, List.set_cons_succ, i64_w, i32_w]; rfl
   refine pure_ (i := 4) (N := some 42) (v := ?_) (a' := ?_) #[true, true, true, true, true, false, false, false, false, false, false, false, false, false, false, false] rfl rfl (by kernel_rfl) (fun _ _ _ h => h) (Or.inl ⟨by rfl, ?_⟩) ?_ ?_
   rotate_left
   ·intro w'; go_simp; with_reducible rfl
   rotate_left
   ·simp only [Act.put, List.setIfInBounds_toArray, List.set_cons_zero, List.set_cons_succ, i64_w, i32_w]; rfl
   refine pure_ (i := 5) (N := some 43) (v := ?_) (a' := ?_) #[true, true, true, true, true, true, false, false, false, false, false, false, false, false, false, false] rfl rfl (by kernel_rfl) (fun _ _ _ h => h) (Or.inl ⟨by rfl, ?_⟩) ?_ ?_
   rotate_left
   ·intro w'; go_simp; with_reducible rfl
   rotate_left
   ·simp only [Act.put, List.setIfInBounds_toArray, List.set_cons_zero, List.set_cons_succ, i64_w, i32_w]; rfl
   refine pure_ (i := 6) (N := some 44) (v := ?_) (a' := ?_) #[true, true, true, true, true, true, true, false, false, false, false, false, false, false, false, false] rfl rfl (by kernel_rfl) (fun _ _ _ h => h) (Or.inl ⟨by rfl, ?_⟩) ?_ ?_
   rotate_left
   ·intro w'; go_simp; with_reducible rfl
   rotate_left
   ·simp only [Act.put, List.setIfInBounds_toArray, List.set_cons_zero, List.set_cons_succ, i64_w, i32_w]; rfl
   refine take_ (i := 7) (N := some 45) (v := ?_) (a' := ?_) #[true, true, true, true, true, true, true, true, false, false, false, false, false, false, false, false] rfl rfl (by kernel_rfl) (fun _ _ _ h => h) (Or.inl ⟨by rfl, ?_⟩) hHeld ?_ ?_
   rotate_left
   ·intro w' hs; have s17 := (blk_cell hs 17).trans rfl; go_simp; with_reducible rfl
   rotate_left
   ·simp only [Act.put, List.setIfInBounds_toArray, List.set_cons_zero, List.set_cons_succ, i64_w, i32_w]; rfl
   refine pure_ (i := 8) (N := some 46) (v := ?_) (a' := ?_) #[true, true, true, true, true, true, true, true, true, false, false, false, false, false, false, false] rfl rfl (by kernel_rfl) (fun _ _ _ h => h) (Or.inl ⟨by rfl, ?_⟩) ?_ ?_
   rotate_left
   ·intro w'; go_simp; with_reducible rfl
   rotate_left
   ·simp only [Act.put, List.setIfInBounds_toArray, List.set_cons_zero, List.set_cons_succ, i64_w, i32_w]; rfl
   refine pure_ (i := 9) (N := some 47) (v := ?_) (a' := ?_) #[true, true, true, true, true, true, true, true, true, true, false, false, false, false, false, false] rfl rfl (by kernel_rfl) (fun _ _ _ h => h) (Or.inl ⟨by rfl, ?_⟩) ?_ ?_
   rotate_left
   ·intro w'; go_simp; with_reducible rfl
   rotate_left
   ·simp only [Act.put, List.setIfInBounds_toArray, List.set_cons_zero, List.set_cons_succ, i64_w, i32_w]; rfl
   refine pure_ (i := 10) (N := some 48) (v := ?_) (a' := ?_) #[true, true, true, true, true, true, true, true, true, true, true, false, false, false, false, false] rfl rfl (by kernel_rfl) (fun _ _ _ h => h) (Or.inl ⟨by rfl, ?_⟩) ?_ ?_
   rotate_left
   ·intro w'; go_simp; with_reducible rfl
   rotate_left
   ·simp only [Act.put, List.setIfInBounds_toArray, List.set_cons_zero, List.set_cons_succ, i64_w, i32_w]; rfl
   refine pure_ (i := 11) (N := some 49) (v := ?_) (a' := ?_) #[true, true, true, true, true, true, true, true, true, true, true, true, false, false, false, false] rfl rfl (by kernel_rfl) (fun _ _ _ h => h) (Or.inl ⟨by rfl, ?_⟩) ?_ ?_
   rotate_left
   ·intro w'; go_simp; with_reducible rfl
   rotate_left
   ·simp only [Act.put, List.setIfInBounds_toArray, List.set_cons_zero, List.set_cons_succ, i64_w, i32_w]; rfl
   refine take_ (i := 12) (N := some 50) (v := ?_) (a' := ?_) #[true, true, true, true, true, true, true, true, true, true, true, true, true, false, false, false] rfl rfl (by kernel_rfl) (fun _ _ _ h => h) (Or.inl ⟨by rfl, ?_⟩) hHeld ?_ ?_
   rotate_left
   ·intro w' hs; have s16 := (blk_cell hs 16).trans rfl; go_simp; with_reducible rfl
   rotate_left
   ·simp only [Act.put, List.setIfInBounds_toArray, List.set_cons_zero, List.set_cons_succ, i64_w, i32_w]; rfl
   refine one_ (i := 13) (N := none) #[true, true, true, true, true, true, true, true, true, true, true, true, true, true, false, false] rfl rfl (by kernel_rfl) (by decide) (fun K hK => ?_)
   refine skip_ (by rfl) rfl (run_store17 rfl rfl rfl P1d.out) ?_
   refine hK.out _ _ ((far_set17 _ _ _ HNE.out _ _ _ _ _ _ _ _ _ _ _ _ _ _ _ _ _).trans hHeld) (fun hHeld => ?_)
   clear hK K
   refine pure_ (i := 14) (N := some 5) (v := ?_) (a' := ?_) #[true, true, true, true, true, true, true, true, true, true, true, true, true, true, true, false] rfl rfl (by kernel_rfl) (fun _ _ _ h => h) (Or.inl ⟨by rfl, ?_⟩) ?_ ?_
   rotate_left
   ·intro w'; go_simp; with_reducible rfl
   rotate_left
   ·simp only [Act.put, List.setIfInBounds_toArray, List.set_cons_zero, List.set_cons_succ, i64_w, i32_w]; rfl
   refine pure_ (i := 15) (N := some 6) (v := ?_) (a' := ?_) #[true, true, true, true, true, true, true, true, true, true, true, true, true, true, true, true] rfl rfl (by kernel_rfl) (fun _ _ _ h => h) (Or.inl ⟨by rfl, ?_⟩) ?_ ?_
   rotate_left
   ·intro w'; go_simp; with_reducible rfl
   rotate_left
   ·simp only [Act.put, List.setIfInBounds_toArray, List.set_cons_zero, List.set_cons_succ, i64_w, i32_w]; rfl
   refine done_ (by kernel_rfl) ?_
   go_wp2_with fail
   obtain ⟨rfl, rfl⟩ := EQ.out
   refine feed9_ret _ _ (bb + 1) _ _ _ rfl rfl rfl rfl (put17s P1d.out _ _ _ _ _ _ _ _ _ _ _ _ _ _ _ _ _) ⟨.slice A2 xi.fs.length k2, .slice A7 oi.length k7, rfl, ?_, ?_, ?_⟩
   ·exact Kd.V_mono (Kd.V_step (Kd.V_drew H2.out) (fun k hk _ => far_set17 _ _ _ (HOKr.out k hk.1.1).2 _ _ _ _ _ _ _ _ _ _ _ _ _ _ _ _ _)) (fun k hk => ⟨(HOKr.out k hk.1.1).1, hk.2⟩)
   ·exact Kd.N_mono (Kd.N_lower (Kd.N_step (Kd.N_drew H3.out) (fun k hk _ => far_set17 _ _ _ (HOKr.out k hk.1).2 _ _ _ _ _ _ _ _ _ _ _ _ _ _ _ _ _)) HB1.out.size) (fun k hk => (HOKr.out k hk.1).1)
   ·exact below_set17 (below_drew1 (HB1.out.trans (HBi.out.mono HB1.out.size))) (by rw [HBB.out]; omega) _ _ _ _ _ _ _ _ _ _ _ _ _ _ _ _ _
  ·rw [if_neg hz] at hf
   have hl0 : si.toList ≠ [] := fun h => hz (by rw [← sz_list, ← toList_data, h]; rfl)
   have d1 : (si.toList != []) = true := bne_iff_ne.mpr hl0
   have d3 : si.toList.isEmpty = false := by simpa using hl0
   have d2 : (!si.toList.isEmpty) = true := by rw [d3]; rfl
   clear hl0
   by_cases he : xi.er = 0
   ·rw [if_pos he] at hf
    split at hf
    case isFalse => cases hf
    case isTrue hg =>
    obtain ⟨⟨p1, p2⟩, hs, hf⟩ := Option.bind_eq_some_iff.1 hf
    dsimp only at hf
    split at hf
    case isFalse => cases hf
    case isTrue hn =>
    have K := Lib.hid (some_any k w1.heap.size ok xi p1 oi si p2 w1 wr HRi.out HOK.out HBi.out HG1.out hg.1 hs)
    have HF2 : Hid True := Lib.hid trivial
    have HN := Lib.hid hn
    have HO := Lib.hid hg.2
    obtain ⟨A2, k2, v2, hv2, H1, H2, H3⟩ := HRi.out.cells
    have c16 : wr.cell? ⟨w1.heap.size, 16, none⟩ = some (.int .i64 xi.er) := (blk_cell H1.out 16).trans rfl
    rw [he] at c16
    have q0 : (0 : Int) ≤ (p2 : Int) := by omega
    have q1 : (p2 : Int) ≤ (si.size : Int) := by omega
    clear HF hz hs hg hn H1 H2 H3 hv2 HF2
    have hmeas : szOf (.string (si.extract p2 si.size)) < szOf (.string si) := by
     show (si.extract p2 si.size).size < si.size
     rw [ByteArray.size_extract]
     have := HN.out
     omega
    have HME := Lib.hid hmeas
    clear hmeas
    by_cases h5 : p1.er = 0
    ·rw [if_pos h5] at hf
     have d5 : (p1.er == 0) = true := beq_iff_eq.mpr h5
     clear h5
     cases hwh : p1.whole with
     | true =>
      rw [if_pos hwh] at hf
      have HF2 := Lib.hid hf
      have HWH := Lib.hid hwh
      clear hf hwh
      go_wp2_with (first
       | (go_at_call 38; refine K.out.mono ?_; rintro e w4 ⟨rfl, hr, hb⟩; have HR4 := Lib.hid hr; have HB4 := Lib.hid hb; obtain ⟨A4, k4, v4, hv4, H1, H2, H3⟩ := hr.cells; have c16b : w4.cell? ⟨w1.heap.size, 16, none⟩ = some (.int .i64 p1.er) := (blk_cell H1.out 16).trans rfl; clear hr hb H1 H2 H3 hv4)
       | (go_at_call 39; refine (tell_yes w1.heap.size ok p1 oi w1 _ HR4.out HOK.out HB4.out HWH.out HO.out).mono ?_; rintro e w5 ⟨rfl, hr, hb⟩; have HR5 := Lib.hid hr; have HB5 := Lib.hid hb; clear hr hb))
      exact ⟨⟨n, _, _, _, rfl, HF2, HR5, HB5⟩, HME.out⟩
     | false =>
      rw [if_neg (by rw [hwh]; decide)] at hf
      have HF2 := Lib.hid hf
      have HWH := Lib.hid hwh
      clear hf hwh
      go_wp2_with (first
       | (go_at_call 38; refine K.out.mono ?_; rintro e w4 ⟨rfl, hr, hb⟩; have HR4 := Lib.hid hr; have HB4 := Lib.hid hb; obtain ⟨A4, k4, v4, hv4, H1, H2, H3⟩ := hr.cells; have c16b : w4.cell? ⟨w1.heap.size, 16, none⟩ = some (.int .i64 p1.er) := (blk_cell H1.out 16).trans rfl; clear hr hb H1 H2 H3 hv4)
       | (go_at_call 39; refine (tell_no w1.heap.size ok p1 oi w1 _ HR4.out HB4.out HWH.out).mono ?_; rintro e w5 ⟨rfl, hr, hb⟩; have HR5 := Lib.hid hr; have HB5 := Lib.hid hb; clear hr hb))
      exact ⟨⟨n, _, _, _, rfl, HF2, HR5, HB5⟩, HME.out⟩
    ·rw [if_neg h5] at hf
     have d5 : (p1.er == 0) = false := beq_eq_false_iff_ne.mpr h5
     have HF2 := Lib.hid hf
     clear h5 hf
     go_wp2_with ((go_at_call 38; refine K.out.mono ?_; rintro e w4 ⟨rfl, hr, hb⟩; have HR4 := Lib.hid hr; have HB4 := Lib.hid hb; obtain ⟨A4, k4, v4, hv4, H1, H2, H3⟩ := hr.cells; have c16b : w4.cell? ⟨w1.heap.size, 16, none⟩ = some (.int .i64 p1.er) := (blk_cell H1.out 16).trans rfl; clear hr hb H1 H2 H3 hv4))
     exact ⟨⟨n, _, _, _, rfl, HF2, HR4, HB4⟩, HME.out⟩
   ·rw [if_neg he] at hf
    have EQ : Hid (xi = y ∧ oi = oy) := Lib.hid (by simpa using hf)
    have d4 : (xi.er == 0) = false := beq_eq_false_iff_ne.mpr he
    clear hf HF hz he
    obtain ⟨A2, k2, v2, hv2, H1, H2, H3⟩ := HRi.out.cells
    obtain ⟨A7, k7, rfl⟩ := Kd.N_slice H3.out
    have c16 : wr.cell? ⟨w1.heap.size, 16, none⟩ = some (.int .i64 xi.er) := (blk_cell H1.out 16).trans rfl
    have P1r := Lib.hid ((HBi.out.block (bb + 1) (by have := HS1.out; omega)).trans P1.out)
    have P1d := Lib.hid (blk_drew P1r.out)
    have hne : w1.heap.size ≠ bb + 1 := by have := HS1.out; omega
    have HNE := Lib.hid hne
    clear hv2 P1r hne
    go_upto_region 8 with (fail)
    clear c16
    refine start_ (n := 16) (S := fun w' => w'.heap[w1.heap.size]? = some (.cells #[.bool xi.ans, .string xi.asked, .string xi.head, .int .i64 xi.kind, .int .i64 xi.size, .string xi.body, .int .i64 xi.st, .int .i64 xi.left, .string xi.line, .int .i64 xi.many, .string xi.m, .string xi.t, .int .i64 xi.sc, .string xi.rs, .int .i64 xi.mi, .slice A2 xi.fs.length k2, .int .i64 xi.er, .slice A7 oi.length k7] 75 (0, 0))) (ds := []) #[false, false, false, false, false, false, false, false, false, false, false, false, false, false, false, false] (by kernel_rfl) rfl rfl (blk_drew H1.out) (fun hHeld => ?_)
    refine pure_ (i := 0) (N := some 38) (v := ?_) (a' := ?_) #[true, false, false, false, false, false, false, false, false, false, false, false, false, false, false, false] rfl rfl (by kernel_rfl) (fun _ _ _ h => h) (Or.inl ⟨by rfl, ?_⟩) ?_ ?_
    rotate_left
    ·intro w'; go_simp; with_reducible rfl
    rotate_left
    ·simp only [Act.put, List.setIfInBounds_toArray, List.set_cons_zero, List.set_cons_succ, i64_w, i32_w]; rfl
    refine pure_ (i := 1) (N := some 39) (v := ?_) (a' := ?_) #[true, true, false, false, false, false, false, false, false, false, false, false, false, false, false, false] rfl rfl (by kernel_rfl) (fun _ _ _ h => h) (Or.inl ⟨by rfl, ?_⟩) ?_ ?_
    rotate_left
    ·intro w'; go_simp; with_reducible rfl
    rotate_left
    ·simp only [Act.put, List.setIfInBounds_toArray, List.set_cons_zero, List.set_cons_succ, i64_w, i32_w]; rfl
    refine pure_ (i := 2) (N := some 40) (v := ?_) (a' := ?_) #[true, true, true, false, false, false, false, false, false, false, false, false, false, false, false, false] rfl rfl (by kernel_rfl) (fun _ _ _ h => h) (Or.inl ⟨by rfl, ?_⟩) ?_ ?_
    rotate_left
    ·intro w'; go_simp; with_reducible rfl
    rotate_left
    ·simp only [Act.put, List.setIfInBounds_toArray, List.set_cons_zero, List.set_cons_succ, i64_w, i32_w]; rfl
    refine take_ (i := 3) (N := some 41) (v := .agg #[.bool xi.ans, .string xi.asked, .string xi.head, .int .i64 xi.kind, .int .i64 xi.size, .string xi.body, .int .i64 xi.st, .int .i64 xi.left, .string xi.line, .int .i64 xi.many, .string xi.m, .string xi.t, .int .i64 xi.sc, .string xi.rs, .int .i64 xi.mi, .slice A2 xi.fs.length k2, .int .i64 xi.er]) (a' := ?_) #[true, true, true, true, false, false, false, false, false, false, false, false, false, false, false, false] rfl rfl (by kernel_rfl) (fun _ _ _ h => h) (Or.inl ⟨by rfl, ?_⟩) hHeld ?_ ?_
    ·intro w' hs; refine run_load18 (p := .tmp 40) ?_ ?_ hs <;> rfl
    rotate_left
    ·simp only [Act.put, List.setIfInBounds_toArray, List.set_cons_zero, List.set_cons_succ, i64_w, i32_w]; rfl
    refine pure_ (i := 4) (N := some 42) (v := ?_) (a' := ?_) #[true, true, true, true, true, false, false, false, false, false, false, false, false, false, false, false] rfl rfl (by kernel_rfl) (fun _ _ _ h => h) (Or.inl ⟨by rfl, ?_⟩) ?_ ?_
    rotate_left
    ·intro w'; go_simp; with_reducible rfl
    rotate_left
    ·simp only [Act.put, List.setIfInBounds_toArray, List.set_cons_zero, List.set_cons_succ, i64_w, i32_w]; rfl
    refine pure_ (i := 5) (N := some 43) (v := ?_) (a' := ?_) #[true, true, true, true, true, true, false, false, false, false, false, false, false, false, false, false] rfl rfl (by kernel_rfl) (fun _ _ _ h => h) (Or.inl ⟨by rfl, ?_⟩) ?_ ?_
    rotate_left
    ·intro w'; go_simp; with_reducible rfl
    rotate_left
    ·simp only [Act.put, List.setIfInBounds_toArray, List.set_cons_zero, List.set_cons_succ, i64_w, i32_w]; rfl
    refine pure_ (i := 6) (N := some 44) (v := ?_) (a' := ?_) #[true, true, true, true, true, true, true, false, false, false, false, false, false, false, false, false] rfl rfl (by kernel_rfl) (fun _ _ _ h => h) (Or.inl ⟨by rfl, ?_⟩) ?_ ?_
    rotate_left
    ·intro w'; go_simp; with_reducible rfl
    rotate_left
    ·simp only [Act.put, List.setIfInBounds_toArray, List.set_cons_zero, List.set_cons_succ, i64_w, i32_w]; rfl
    refine take_ (i := 7) (N := some 45) (v := ?_) (a' := ?_) #[true, true, true, true, true, true, true, true, false, false, false, false, false, false, false, false] rfl rfl (by kernel_rfl) (fun _ _ _ h => h) (Or.inl ⟨by rfl, ?_⟩) hHeld ?_ ?_
    rotate_left
    ·intro w' hs; have s17 := (blk_cell hs 17).trans rfl; go_simp; with_reducible rfl
    rotate_left
    ·simp only [Act.put, List.setIfInBounds_toArray, List.set_cons_zero, List.set_cons_succ, i64_w, i32_w]; rfl
    refine pure_ (i := 8) (N := some 46) (v := ?_) (a' := ?_) #[true, true, true, true, true, true, true, true, true, false, false, false, false, false, false, false] rfl rfl (by kernel_rfl) (fun _ _ _ h => h) (Or.inl ⟨by rfl, ?_⟩) ?_ ?_
    rotate_left
    ·intro w'; go_simp; with_reducible rfl
    rotate_left
    ·simp only [Act.put, List.setIfInBounds_toArray, List.set_cons_zero, List.set_cons_succ, i64_w, i32_w]; rfl
    refine pure_ (i := 9) (N := some 47) (v := ?_) (a' := ?_) #[true, true, true, true, true, true, true, true, true, true, false, false, false, false, false, false] rfl rfl (by kernel_rfl) (fun _ _ _ h => h) (Or.inl ⟨by rfl, ?_⟩) ?_ ?_
    rotate_left
    ·intro w'; go_simp; with_reducible rfl
    rotate_left
    ·simp only [Act.put, List.setIfInBounds_toArray, List.set_cons_zero, List.set_cons_succ, i64_w, i32_w]; rfl
    refine pure_ (i := 10) (N := some 48) (v := ?_) (a' := ?_) #[true, true, true, true, true, true, true, true, true, true, true, false, false, false, false, false] rfl rfl (by kernel_rfl) (fun _ _ _ h => h) (Or.inl ⟨by rfl, ?_⟩) ?_ ?_
    rotate_left
    ·intro w'; go_simp; with_reducible rfl
    rotate_left
    ·simp only [Act.put, List.setIfInBounds_toArray, List.set_cons_zero, List.set_cons_succ, i64_w, i32_w]; rfl
    refine pure_ (i := 11) (N := some 49) (v := ?_) (a' := ?_) #[true, true, true, true, true, true, true, true, true, true, true, true, false, false, false, false] rfl rfl (by kernel_rfl) (fun _ _ _ h => h) (Or.inl ⟨by rfl, ?_⟩) ?_ ?_
    rotate_left
    ·intro w'; go_simp; with_reducible rfl
    rotate_left
    ·simp only [Act.put, List.setIfInBounds_toArray, List.set_cons_zero, List.set_cons_succ, i64_w, i32_w]; rfl
    refine take_ (i := 12) (N := some 50) (v := ?_) (a' := ?_) #[true, true, true, true, true, true, true, true, true, true, true, true, true, false, false, false] rfl rfl (by kernel_rfl) (fun _ _ _ h => h) (Or.inl ⟨by rfl, ?_⟩) hHeld ?_ ?_
    rotate_left
    ·intro w' hs; have s16 := (blk_cell hs 16).trans rfl; go_simp; with_reducible rfl
    rotate_left
    ·simp only [Act.put, List.setIfInBounds_toArray, List.set_cons_zero, List.set_cons_succ, i64_w, i32_w]; rfl
    refine one_ (i := 13) (N := none) #[true, true, true, true, true, true, true, true, true, true, true, true, true, true, false, false] rfl rfl (by kernel_rfl) (by decide) (fun K hK => ?_)
    refine skip_ (by rfl) rfl (run_store17 rfl rfl rfl P1d.out) ?_
    refine hK.out _ _ ((far_set17 _ _ _ HNE.out _ _ _ _ _ _ _ _ _ _ _ _ _ _ _ _ _).trans hHeld) (fun hHeld => ?_)
    clear hK K
    refine pure_ (i := 14) (N := some 5) (v := ?_) (a' := ?_) #[true, true, true, true, true, true, true, true, true, true, true, true, true, true, true, false] rfl rfl (by kernel_rfl) (fun _ _ _ h => h) (Or.inl ⟨by rfl, ?_⟩) ?_ ?_
    rotate_left
    ·intro w'; go_simp; with_reducible rfl
    rotate_left
    ·simp only [Act.put, List.setIfInBounds_toArray, List.set_cons_zero, List.set_cons_succ, i64_w, i32_w]; rfl
    refine pure_ (i := 15) (N := some 6) (v := ?_) (a' := ?_) #[true, true, true, true, true, true, true, true, true, true, true, true, true, true, true, true] rfl rfl (by kernel_rfl) (fun _ _ _ h => h) (Or.inl ⟨by rfl, ?_⟩) ?_ ?_
    rotate_left
    ·intro w'; go_simp; with_reducible rfl
    rotate_left
    ·simp only [Act.put, List.setIfInBounds_toArray, List.set_cons_zero, List.set_cons_succ, i64_w, i32_w]; rfl
    refine done_ (by kernel_rfl) ?_
    go_wp2_with fail
    obtain ⟨rfl, rfl⟩ := EQ.out
    refine feed9_ret _ _ (bb + 1) _ _ _ rfl rfl rfl rfl (put17s P1d.out _ _ _ _ _ _ _ _ _ _ _ _ _ _ _ _ _) ⟨.slice A2 xi.fs.length k2, .slice A7 oi.length k7, rfl, ?_, ?_, ?_⟩
    ·exact Kd.V_mono (Kd.V_step (Kd.V_drew H2.out) (fun k hk _ => far_set17 _ _ _ (HOKr.out k hk.1.1).2 _ _ _ _ _ _ _ _ _ _ _ _ _ _ _ _ _)) (fun k hk => ⟨(HOKr.out k hk.1.1).1, hk.2⟩)
    ·exact Kd.N_mono (Kd.N_lower (Kd.N_step (Kd.N_drew H3.out) (fun k hk _ => far_set17 _ _ _ (HOKr.out k hk.1).2 _ _ _ _ _ _ _ _ _ _ _ _ _ _ _ _ _)) HB1.out.size) (fun k hk => (HOKr.out k hk.1).1)
    ·exact below_set17 (below_drew1 (HB1.out.trans (HBi.out.mono HB1.out.size))) (by rw [HBB.out]; omega) _ _ _ _ _ _ _ _ _ _ _ _ _ _ _ _ _
set_option maxHeartbeats 6400000 in
set_option maxRecDepth 100000 in
theorem message_Feed.calls (k : Nat) (a0_0 : Bool) (a0_1 : ByteArray) (a0_2 : ByteArray) (a0_3 : Int) (a0_4 : Int) (a0_5 : ByteArray) (a0_6 : Int) (a0_7 : Int) (a0_8 : ByteArray) (a0_9 : Int) (a0_10 : ByteArray) (a0_11 : ByteArray) (a0_12 : Int) (a0_13 : ByteArray) (a0_14 : Int) (P0_15_ : Nat → Prop) (A0_15 : Option Addr) (c0_15 : Nat) (l0_15 : List S40) (a0_16 : Int) (a1 : ByteArray) (r1 : Bool) (r2 : ByteArray) (r3 : ByteArray) (r4 : Int) (r5 : Int) (r6 : ByteArray) (r7 : Int) (r8 : Int) (r9 : ByteArray) (r10 : Int) (r11 : ByteArray) (r12 : ByteArray) (r13 : Int) (r14 : ByteArray) (r15 : Int) (r16 : List S40) (r17 : Int) (r18 : List S49) (r19 : Int) (w : World) (hs0_15 : Kd.V k40 40 w w.heap.size (fun k_ => P0_15_ k_) (.slice A0_15 l0_15.length c0_15) l0_15) (hG_ : H.GlobOk w) (h : message_Feed.f k a0_0 a0_1 a0_2 a0_3 a0_4 a0_5 a0_6 a0_7 a0_8 a0_9 a0_10 a0_11 a0_12 a0_13 a0_14 l0_15 a0_16 a1 = some (r1, r2, r3, r4, r5, r6, r7, r8, r9, r10, r11, r12, r13, r14, r15, r16, r17, r18, r19)) :
  Calls Tryz.prog 19 #[.agg #[.bool a0_0, .string a0_1, .string a0_2, .int .i64 a0_3, .int .i64 a0_4, .string a0_5, .int .i64 a0_6, .int .i64 a0_7, .string a0_8, .int .i64 a0_9, .string a0_10, .string a0_11, .int .i64 a0_12, .string a0_13, .int .i64 a0_14, .slice A0_15 l0_15.length c0_15, .int .i64 a0_16], .string a1] w fun e w' => ∃ v15_ v17_ : Value, e = .returned (.tuple #[.agg #[.bool r1, .string r2, .string r3, .int .i64 r4, .int .i64 r5, .string r6, .int .i64 r7, .int .i64 r8, .string r9, .int .i64 r10, .string r11, .string r12, .int .i64 r13, .string r14, .int .i64 r15, v15_, .int .i64 r17], v17_, .int .i64 r19]) ∧ Kd.V k40 40 w' w.heap.size (fun k_ => (P0_15_ k_ ∨ w.heap.size ≤ k_) ∧ some k_ ≠ (v17_ : Value).ownBlock) v15_ r16 ∧ Kd.N k49 49 w' w.heap.size (fun k_ => (P0_15_ k_ ∨ w.heap.size ≤ k_)) v17_ r18 ∧ Below w.heap.size w w' := by
 unfold message_Feed.f at h
 obtain ⟨r, hR, h⟩ := Option.bind_eq_some_iff.1 h
 cases r with
 | false =>
  rw [if_neg (by decide)] at h
  exact feed_no k _ _ _ _ _ _ _ _ _ _ _ _ _ _ _ _ _ _ _ _ _ _ _ _ _ _ _ _ _ _ _ _ _ _ _ _ _ _ _ _ w hs0_15 hG_ hR h
 | true =>
  rw [if_pos rfl] at h
  obtain ⟨⟨y, oy⟩, hl, h⟩ := Option.bind_eq_some_iff.1 h
  exact feed_yes k _ _ _ _ _ _ _ _ _ _ _ _ _ _ _ _ _ _ _ _ _ _ _ _ _ _ _ _ _ _ _ _ _ _ _ _ _ _ _ _ w hs0_15 hG_ hR y oy hl h
end Go.Proofs.YtapeodbgobkjeaaGreatDoor.P
