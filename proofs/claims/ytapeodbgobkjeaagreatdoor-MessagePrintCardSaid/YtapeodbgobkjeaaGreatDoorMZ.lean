/- Several parts together: A reader in a block: what it holds, and what becomes of it where a field is stored; The contract of what a reader tells; The contract of what a reader does with plain bytes of a body; The contract of what a reader does with bytes of a body in chunks; A whole reader is read, or stored, in one step; What a reader does with bytes, as plain functions with fuel: what the walks of message.Feed compute. -/
import Derived.Test.YtapeodbgobkjeaaGreatDoorHZD
import Derived.Test.YtapeodbgobkjeaaGreatDoorHZM
import Derived.Test.YtapeodbgobkjeaaGreatDoorHJ5
import Derived.Test.YtapeodbgobkjeaaGreatDoorPx10
import Derived.StillTailTactics
import Derived.Deep.RegionLaw
set_option linter.unusedVariables false
set_option linter.unusedSimpArgs false
namespace Go.Proofs.YtapeodbgobkjeaaGreatDoor.P
open Go.RowKit Go.Shelf Go.Lib Go.Proofs.YtapeodbgobkjeaaGreatDoorW.PrintWords Go.Proofs.YtapeodbgobkjeaaGreatDoorW.PrintLast Go.Proofs.YtapeodbgobkjeaaGreatDoorW.PrintMore
structure Rd where
 ans : Bool
 asked : ByteArray
 head : ByteArray
 kind : Int
 size : Int
 body : ByteArray
 st : Int
 left : Int
 line : ByteArray
 many : Int
 m : ByteArray
 t : ByteArray
 sc : Int
 rs : ByteArray
 mi : Int
 fs : List S40
 er : Int
abbrev eB : ByteArray := ⟨#[]⟩
def Rd.new (a : Bool) (b : ByteArray) : Rd := ⟨a, b, eB, 0, 0, eB, 0, 0, eB, 0, eB, eB, 0, eB, 0, [], 0⟩
def Rd.fail (x : Rd) (e : Int) : Rd := { Rd.new x.ans x.asked with er := e }
def RdAt (B b : Nat) (ok : Nat → Prop) (x : Rd) (out : List S49) (w : World) : Prop :=
 B ≤ b ∧ ∃ u v, w.heap[b]? = some (.cells #[.bool x.ans, .string x.asked, .string x.head, .int .i64 x.kind, .int .i64 x.size, .string x.body, .int .i64 x.st, .int .i64 x.left, .string x.line, .int .i64 x.many, .string x.m, .string x.t, .int .i64 x.sc, .string x.rs, .int .i64 x.mi, u, .int .i64 x.er, v] 75 (0, 0)) ∧
  Kd.V k40 40 w B (fun k => (ok k ∧ k ≠ b) ∧ some k ≠ v.ownBlock) u x.fs ∧ Kd.N k49 49 w B (fun k => ok k ∧ k ≠ b) v out
theorem RdAt.below {B b : Nat} {ok : Nat → Prop} {x : Rd} {out : List S49} {w w1 : World} (h : RdAt B b ok x out w) (hb : Below w.heap.size w w1) : RdAt B b ok x out w1 := by
 obtain ⟨h0, u, v, h1, h2, h3⟩ := h
 exact ⟨h0, u, v, blk_below h1 hb, Kd.V_below h2 hb, Kd.N_below h3 hb⟩
def set17 (w : World) (g : Nat) (v0 v1 v2 v3 v4 v5 v6 v7 v8 v9 v10 v11 v12 v13 v14 v15 v16 : Value) : World := (((((((((((((((((w.setCell ⟨g, 0, none⟩ v0).setCell ⟨g, 1, none⟩ v1).setCell ⟨g, 2, none⟩ v2).setCell ⟨g, 3, none⟩ v3).setCell ⟨g, 4, none⟩ v4).setCell ⟨g, 5, none⟩ v5).setCell ⟨g, 6, none⟩ v6).setCell ⟨g, 7, none⟩ v7).setCell ⟨g, 8, none⟩ v8).setCell ⟨g, 9, none⟩ v9).setCell ⟨g, 10, none⟩ v10).setCell ⟨g, 11, none⟩ v11).setCell ⟨g, 12, none⟩ v12).setCell ⟨g, 13, none⟩ v13).setCell ⟨g, 14, none⟩ v14).setCell ⟨g, 15, none⟩ v15).setCell ⟨g, 16, none⟩ v16)
theorem heap_set {w : World} {g i : Nat} {v : Value} (k : Nat) (h : k ≠ g) : (w.setCell ⟨g, i, none⟩ v).heap[k]? = w.heap[k]? := Below.heap_setCell w ⟨g, i, none⟩ v k h
theorem cz18 {w : World} {g : Nat} {t : TypeId} {c0 c1 c2 c3 c4 c5 c6 c7 c8 c9 c10 c11 c12 c13 c14 c15 c16 c17 : Value} (h : w.heap[g]? = some (.cells #[c0, c1, c2, c3, c4, c5, c6, c7, c8, c9, c10, c11, c12, c13, c14, c15, c16, c17] t (0, 0))) : w.cell? ⟨g, 0, none⟩ = some c0 ∧ w.cell? ⟨g, 1, none⟩ = some c1 ∧ w.cell? ⟨g, 2, none⟩ = some c2 ∧ w.cell? ⟨g, 3, none⟩ = some c3 ∧ w.cell? ⟨g, 4, none⟩ = some c4 ∧ w.cell? ⟨g, 5, none⟩ = some c5 ∧ w.cell? ⟨g, 6, none⟩ = some c6 ∧ w.cell? ⟨g, 7, none⟩ = some c7 ∧ w.cell? ⟨g, 8, none⟩ = some c8 ∧ w.cell? ⟨g, 9, none⟩ = some c9 ∧ w.cell? ⟨g, 10, none⟩ = some c10 ∧ w.cell? ⟨g, 11, none⟩ = some c11 ∧ w.cell? ⟨g, 12, none⟩ = some c12 ∧ w.cell? ⟨g, 13, none⟩ = some c13 ∧ w.cell? ⟨g, 14, none⟩ = some c14 ∧ w.cell? ⟨g, 15, none⟩ = some c15 ∧ w.cell? ⟨g, 16, none⟩ = some c16 ∧ w.cell? ⟨g, 17, none⟩ = some c17 ∧ w.frozen? ⟨g, 0, none⟩ = false ∧ w.frozen? ⟨g, 1, none⟩ = false ∧ w.frozen? ⟨g, 2, none⟩ = false ∧ w.frozen? ⟨g, 3, none⟩ = false ∧ w.frozen? ⟨g, 4, none⟩ = false ∧ w.frozen? ⟨g, 5, none⟩ = false ∧ w.frozen? ⟨g, 6, none⟩ = false ∧ w.frozen? ⟨g, 7, none⟩ = false ∧ w.frozen? ⟨g, 8, none⟩ = false ∧ w.frozen? ⟨g, 9, none⟩ = false ∧ w.frozen? ⟨g, 10, none⟩ = false ∧ w.frozen? ⟨g, 11, none⟩ = false ∧ w.frozen? ⟨g, 12, none⟩ = false ∧ w.frozen? ⟨g, 13, none⟩ = false ∧ w.frozen? ⟨g, 14, none⟩ = false ∧ w.frozen? ⟨g, 15, none⟩ = false ∧ w.frozen? ⟨g, 16, none⟩ = false ∧ w.frozen? ⟨g, 17, none⟩ = false := ⟨(blk_cell h 0).trans rfl, (blk_cell h 1).trans rfl, (blk_cell h 2).trans rfl, (blk_cell h 3).trans rfl, (blk_cell h 4).trans rfl, (blk_cell h 5).trans rfl, (blk_cell h 6).trans rfl, (blk_cell h 7).trans rfl, (blk_cell h 8).trans rfl, (blk_cell h 9).trans rfl, (blk_cell h 10).trans rfl, (blk_cell h 11).trans rfl, (blk_cell h 12).trans rfl, (blk_cell h 13).trans rfl, (blk_cell h 14).trans rfl, (blk_cell h 15).trans rfl, (blk_cell h 16).trans rfl, (blk_cell h 17).trans rfl, blk_frozen h 0, blk_frozen h 1, blk_frozen h 2, blk_frozen h 3, blk_frozen h 4, blk_frozen h 5, blk_frozen h 6, blk_frozen h 7, blk_frozen h 8, blk_frozen h 9, blk_frozen h 10, blk_frozen h 11, blk_frozen h 12, blk_frozen h 13, blk_frozen h 14, blk_frozen h 15, blk_frozen h 16, blk_frozen h 17⟩
theorem put17 {w : World} {g : Nat} {t : TypeId} {c0 c1 c2 c3 c4 c5 c6 c7 c8 c9 c10 c11 c12 c13 c14 c15 c16 c17 : Value} (h : w.heap[g]? = some (.cells #[c0, c1, c2, c3, c4, c5, c6, c7, c8, c9, c10, c11, c12, c13, c14, c15, c16, c17] t (0, 0))) (v0 v1 v2 v3 v4 v5 v6 v7 v8 v9 v10 v11 v12 v13 v14 v15 v16 : Value) : (set17 w g v0 v1 v2 v3 v4 v5 v6 v7 v8 v9 v10 v11 v12 v13 v14 v15 v16).heap[g]? = some (.cells #[v0, v1, v2, v3, v4, v5, v6, v7, v8, v9, v10, v11, v12, v13, v14, v15, v16, c17] t (0, 0)) := (blk_put (cs := #[v0, v1, v2, v3, v4, v5, v6, v7, v8, v9, v10, v11, v12, v13, v14, v15, c16, c17]) (blk_put (cs := #[v0, v1, v2, v3, v4, v5, v6, v7, v8, v9, v10, v11, v12, v13, v14, c15, c16, c17]) (blk_put (cs := #[v0, v1, v2, v3, v4, v5, v6, v7, v8, v9, v10, v11, v12, v13, c14, c15, c16, c17]) (blk_put (cs := #[v0, v1, v2, v3, v4, v5, v6, v7, v8, v9, v10, v11, v12, c13, c14, c15, c16, c17]) (blk_put (cs := #[v0, v1, v2, v3, v4, v5, v6, v7, v8, v9, v10, v11, c12, c13, c14, c15, c16, c17]) (blk_put (cs := #[v0, v1, v2, v3, v4, v5, v6, v7, v8, v9, v10, c11, c12, c13, c14, c15, c16, c17]) (blk_put (cs := #[v0, v1, v2, v3, v4, v5, v6, v7, v8, v9, c10, c11, c12, c13, c14, c15, c16, c17]) (blk_put (cs := #[v0, v1, v2, v3, v4, v5, v6, v7, v8, c9, c10, c11, c12, c13, c14, c15, c16, c17]) (blk_put (cs := #[v0, v1, v2, v3, v4, v5, v6, v7, c8, c9, c10, c11, c12, c13, c14, c15, c16, c17]) (blk_put (cs := #[v0, v1, v2, v3, v4, v5, v6, c7, c8, c9, c10, c11, c12, c13, c14, c15, c16, c17]) (blk_put (cs := #[v0, v1, v2, v3, v4, v5, c6, c7, c8, c9, c10, c11, c12, c13, c14, c15, c16, c17]) (blk_put (cs := #[v0, v1, v2, v3, v4, c5, c6, c7, c8, c9, c10, c11, c12, c13, c14, c15, c16, c17]) (blk_put (cs := #[v0, v1, v2, v3, c4, c5, c6, c7, c8, c9, c10, c11, c12, c13, c14, c15, c16, c17]) (blk_put (cs := #[v0, v1, v2, c3, c4, c5, c6, c7, c8, c9, c10, c11, c12, c13, c14, c15, c16, c17]) (blk_put (cs := #[v0, v1, c2, c3, c4, c5, c6, c7, c8, c9, c10, c11, c12, c13, c14, c15, c16, c17]) (blk_put (cs := #[v0, c1, c2, c3, c4, c5, c6, c7, c8, c9, c10, c11, c12, c13, c14, c15, c16, c17]) (blk_put (cs := #[c0, c1, c2, c3, c4, c5, c6, c7, c8, c9, c10, c11, c12, c13, c14, c15, c16, c17]) h 0 v0 rfl) 1 v1 rfl) 2 v2 rfl) 3 v3 rfl) 4 v4 rfl) 5 v5 rfl) 6 v6 rfl) 7 v7 rfl) 8 v8 rfl) 9 v9 rfl) 10 v10 rfl) 11 v11 rfl) 12 v12 rfl) 13 v13 rfl) 14 v14 rfl) 15 v15 rfl) 16 v16 rfl)
theorem below_set17 {B : Nat} {w0 w : World} {g : Nat} (h : Below B w0 w) (hg : B ≤ g) (v0 v1 v2 v3 v4 v5 v6 v7 v8 v9 v10 v11 v12 v13 v14 v15 v16 : Value) : Below B w0 (set17 w g v0 v1 v2 v3 v4 v5 v6 v7 v8 v9 v10 v11 v12 v13 v14 v15 v16) := (((((((((((((((((h.setCell (p := ⟨g, 0, none⟩) hg v0).setCell (p := ⟨g, 1, none⟩) hg v1).setCell (p := ⟨g, 2, none⟩) hg v2).setCell (p := ⟨g, 3, none⟩) hg v3).setCell (p := ⟨g, 4, none⟩) hg v4).setCell (p := ⟨g, 5, none⟩) hg v5).setCell (p := ⟨g, 6, none⟩) hg v6).setCell (p := ⟨g, 7, none⟩) hg v7).setCell (p := ⟨g, 8, none⟩) hg v8).setCell (p := ⟨g, 9, none⟩) hg v9).setCell (p := ⟨g, 10, none⟩) hg v10).setCell (p := ⟨g, 11, none⟩) hg v11).setCell (p := ⟨g, 12, none⟩) hg v12).setCell (p := ⟨g, 13, none⟩) hg v13).setCell (p := ⟨g, 14, none⟩) hg v14).setCell (p := ⟨g, 15, none⟩) hg v15).setCell (p := ⟨g, 16, none⟩) hg v16)
theorem far_set17 (w : World) (g k : Nat) (hk : k ≠ g) (v0 v1 v2 v3 v4 v5 v6 v7 v8 v9 v10 v11 v12 v13 v14 v15 v16 : Value) : (set17 w g v0 v1 v2 v3 v4 v5 v6 v7 v8 v9 v10 v11 v12 v13 v14 v15 v16).heap[k]? = w.heap[k]? := by
 unfold set17
 simp only [heap_set k hk]
theorem RdAt.cells {B b : Nat} {ok : Nat → Prop} {x : Rd} {out : List S49} {w : World} (h : RdAt B b ok x out w) : ∃ A c v, v.ownBlock ≠ some b ∧ Aside0 (w.heap[b]? = some (.cells #[.bool x.ans, .string x.asked, .string x.head, .int .i64 x.kind, .int .i64 x.size, .string x.body, .int .i64 x.st, .int .i64 x.left, .string x.line, .int .i64 x.many, .string x.m, .string x.t, .int .i64 x.sc, .string x.rs, .int .i64 x.mi, .slice A x.fs.length c, .int .i64 x.er, v] 75 (0, 0))) ∧
  Aside0 (Kd.V k40 40 w B (fun k => (ok k ∧ k ≠ b) ∧ some k ≠ v.ownBlock) (.slice A x.fs.length c) x.fs) ∧ Aside0 (Kd.N k49 49 w B (fun k => ok k ∧ k ≠ b) v out) := by
 obtain ⟨_, u, v, h1, h2, h3⟩ := h
 obtain ⟨A, c, rfl⟩ := Kd.V_slice h2
 exact ⟨A, c, v, fun e => (Kd.N_away h3 (g := b) (fun k hk => hk.2)) e.symm, ⟨h1⟩, ⟨h2⟩, ⟨h3⟩⟩
theorem RdAt.whole {B b : Nat} {ok : Nat → Prop} {x : Rd} {out : List S49} {w : World} (h : RdAt B b ok x out w) (y : Rd) (hy : y.fs = []) :
  RdAt B b ok y out (set17 w b (.bool y.ans) (.string y.asked) (.string y.head) (.int .i64 y.kind) (.int .i64 y.size) (.string y.body) (.int .i64 y.st) (.int .i64 y.left) (.string y.line) (.int .i64 y.many) (.string y.m) (.string y.t) (.int .i64 y.sc) (.string y.rs) (.int .i64 y.mi) (.slice none 0 0) (.int .i64 y.er)) := by
 obtain ⟨h0, u, v, h1, h2, h3⟩ := h
 refine ⟨h0, .slice none 0 0, v, put17 h1 _ _ _ _ _ _ _ _ _ _ _ _ _ _ _ _ _, ?_, Kd.N_step h3 (fun k hk _ => far_set17 _ _ _ hk.2 _ _ _ _ _ _ _ _ _ _ _ _ _ _ _ _ _)⟩
 rw [hy]
 exact Kd.V_nil _ _ _ _ _
set_option maxHeartbeats 1600000 in
set_option maxRecDepth 100000 in
theorem fail_any (b : Nat) (ok : Nat → Prop) (x : Rd) (out : List S49) (e0 : Int) (w0 w : World) (h : RdAt w0.heap.size b ok x out w) (hB : Below w0.heap.size w0 w) :
  Calls Tryz.prog 87 #[.pointer (some ⟨b, 0, none⟩), .int .i64 e0] w fun e w' => e = .returned (.tuple #[]) ∧ RdAt w0.heap.size b ok (x.fail e0) out w' ∧ Below w0.heap.size w0 w' := by
 have HR := Lib.hid h
 have HB := Lib.hid hB
 obtain ⟨A, c, v, hv, H1, H2, H3⟩ := h.cells
 have c0 := (blk_cell H1.out 0).trans rfl
 have c1 := (blk_cell H1.out 1).trans rfl
 clear h hB H2 H3
 go_enter Tryz.func87, Tryz.ntmps87
 go_still_tail 13, (by kernel_rfl)
 change wpList _ _ _ _ _ w.drew
 have HR2 := Lib.hid (HR.out.below (below_drew (Below.refl _ _)))
 have HB2 := Lib.hid (below_drew1 HB.out)
 replace H1 := Aside0.mk (blk_drew H1.out)
 clear HR HB c0 c1
 generalize w.drew = w2 at H1 HR2 HB2 ⊢
 obtain ⟨c0, c1, c2, c3, c4, c5, c6, c7, c8, c9, c10, c11, c12, c13, c14, c15, c16, -, f0, f1, f2, f3, f4, f5, f6, f7, f8, f9, f10, f11, f12, f13, f14, f15, f16, -⟩ := cz18 H1.out
 go_wp2_with fail
 go_end0
 exact ⟨rfl, HR2.out.whole (x.fail e0) rfl, below_set17 HB2.out HR2.out.1 _ _ _ _ _ _ _ _ _ _ _ _ _ _ _ _ _⟩
end Go.Proofs.YtapeodbgobkjeaaGreatDoor.P
namespace Go.Proofs.YtapeodbgobkjeaaGreatDoor.P
open Go.RowKit Go.Shelf Go.Lib Go.Proofs.YtapeodbgobkjeaaGreatDoorW.PrintWords Go.Proofs.YtapeodbgobkjeaaGreatDoorW.PrintLast Go.Proofs.YtapeodbgobkjeaaGreatDoorW.PrintMore
def Rd.whole (x : Rd) : Bool := if x.kind = 1 then true else if x.kind = 2 then (x.body.size : Int) == x.size else if x.kind = 3 then x.st == 4 else false
def Rd.msg (x : Rd) : S49 := ⟨⟨x.m, x.t, x.sc, x.rs, x.mi, x.fs⟩, x.body⟩
set_option maxHeartbeats 1600000 in
set_option maxRecDepth 100000 in
theorem tell_no (b : Nat) (ok : Nat → Prop) (x : Rd) (out : List S49) (w0 w : World) (h : RdAt w0.heap.size b ok x out w) (hB : Below w0.heap.size w0 w) (hx : x.whole = false) :
  Calls Tryz.prog 39 #[.pointer (some ⟨b, 0, none⟩)] w fun e w' => e = .returned (.tuple #[]) ∧ RdAt w0.heap.size b ok x out w' ∧ Below w0.heap.size w0 w' := by
 unfold Rd.whole at hx
 have HR := Lib.hid h
 have HB := Lib.hid hB
 obtain ⟨A, c, v, hv, H1, H2, H3⟩ := h.cells
 obtain ⟨c0, c1, c2, c3, c4, c5, c6, c7, c8, c9, c10, c11, c12, c13, c14, c15, c16, -, f0, f1, f2, f3, f4, f5, f6, f7, f8, f9, f10, f11, f12, f13, f14, f15, f16, -⟩ := cz18 H1.out
 clear h hB H2 H3
 clear f0 f1 f2 f3 f4 f5 f6 f7 f8 f9 f10 f11 f12 f13 f14 f15 f16 c0 c1 c2 c7 c8 c9 c10 c11 c12 c13 c14 c15 c16
 by_cases k1 : x.kind = 1
 ·rw [if_pos k1] at hx; cases hx
 rw [if_neg k1] at hx
 obtain ⟨a1, a2⟩ := ze k1
 by_cases k2 : x.kind = 2
 ·rw [if_pos k2] at hx
  obtain ⟨b1, b2⟩ := zd k2
  clear k1 k2
  go_enter Tryz.func39, Tryz.ntmps39
  go_wp2_with fail
  go_quiet (fail)
  go_wp2_with fail
  go_end0
  exact ⟨rfl, HR.out.below (pw_below_drewN (Below.refl _ _) _), pw_below_drewN HB.out _⟩
 rw [if_neg k2] at hx
 obtain ⟨b1, b2⟩ := ze k2
 by_cases k3 : x.kind = 3
 ·rw [if_pos k3] at hx
  obtain ⟨d1, d2⟩ := zd k3
  clear k1 k2 k3
  go_enter Tryz.func39, Tryz.ntmps39
  go_wp2_with fail
  go_end0
  exact ⟨rfl, HR.out, HB.out⟩
 ·obtain ⟨d1, d2⟩ := ze k3
  clear k1 k2 k3
  go_enter Tryz.func39, Tryz.ntmps39
  go_wp2_with fail
  go_end0
  exact ⟨rfl, HR.out, HB.out⟩
theorem N_append_law {α : Type} (d : Kd α) {P : Program} {w0 W : World} {ops : Array Oper} {o : Oper} {a : Act} {Kc : Act → World → Prop} {Q : Exit → Act → World → Prop} {E : Prop} (base : Nat) (hgd : o.guard = none) (s x : Operand) (t e : TypeId) (z : Value) (bytes : Nat)
  (ho : o.op = .call { callee := .builtin .append, args := #[s, x], argTypes := #[t, t] })
  (ht : P.underlying t = some (.slice e)) (hinfo : (P.info? e).map (fun i => (i.zero, i.size, i.bytes)) = some (some z, d.sz, bytes)) (hz : z.cells.size = d.sz) (hs0 : 0 < d.sz) (hb0 : 0 < bytes)
  (v : Value) (xs : List α) (p : α) (cs : List Value) (ok okp : Nat → Prop) (hs : a.eval s = v) (hx : a.eval x = .slice (some ⟨W.heap.size, 0, none⟩) 1 1) (hp : Kd.FK d W okp p cs) (hokp : ∀ k, okp k → ok k ∧ some k ≠ v.ownBlock) (hfresh : ∀ k, W.heap.size ≤ k → ok k)
  (HO : Kd.N d e W base ok v xs) (HB : Below base w0 W) (hbase : base ≤ W.heap.size) (hl : (xs.length + 1) * bytes ≤ 140737488355328)
  (h : ∀ v1 w1, Kd.N d e w1 base ok v1 (xs ++ [p]) → Below base w0 w1 → W.grownBy w1 v.ownBlock → (v1.ownBlock = v.ownBlock ∨ ∃ b, v1.ownBlock = some b ∧ W.heap.size ≤ b) → Kc (a.put o.dst v1) w1) :
  if Region.wanted o (yielded ops a.tmps) = true then Oper.wp P o a (W.alloc (.cells cs.toArray e)) Kc Q else E := by
 have hw : Region.wanted o (yielded ops a.tmps) = true := by simp [Region.wanted, hgd]
 rw [if_pos hw]
 have := Kd.N_append_step d (ops := ops) (Q := Q) base hw s x t e z bytes ho ht hinfo hz hs0 hb0 v xs p cs ok okp hs hx hp hokp hfresh HO HB hbase hl h
 rw [if_pos hw] at this
 exact this
theorem N_append_drew {α : Type} (d : Kd α) {P : Program} {w0 W : World} {ops : Array Oper} {o : Oper} {a : Act} {Kc : Act → World → Prop} {Q : Exit → Act → World → Prop} {E : Prop} (base : Nat) (hgd : o.guard = none) (s x : Operand) (t e : TypeId) (z : Value) (bytes : Nat)
  (ho : o.op = .call { callee := .builtin .append, args := #[s, x], argTypes := #[t, t] })
  (ht : P.underlying t = some (.slice e)) (hinfo : (P.info? e).map (fun i => (i.zero, i.size, i.bytes)) = some (some z, d.sz, bytes)) (hz : z.cells.size = d.sz) (hs0 : 0 < d.sz) (hb0 : 0 < bytes)
  (v : Value) (xs : List α) (p : α) (cs : List Value) (ok okp : Nat → Prop) (hs : a.eval s = v) (hx : a.eval x = .slice (some ⟨W.heap.size, 0, none⟩) 1 1) (hp : Kd.FK d W okp p cs) (hokp : ∀ k, okp k → ok k ∧ some k ≠ v.ownBlock) (hfresh : ∀ k, W.heap.size ≤ k → ok k)
  (HO : Kd.N d e W base ok v xs) (HB : Below base w0 W) (hbase : base ≤ W.heap.size) (hl : (xs.length + 1) * bytes ≤ 140737488355328)
  (h : ∀ v1 w1, Kd.N d e w1 base ok v1 (xs ++ [p]) → Below base w0 w1 → W.grownBy w1 v.ownBlock → (v1.ownBlock = v.ownBlock ∨ ∃ b, v1.ownBlock = some b ∧ W.heap.size ≤ b) → Kc (a.put o.dst v1) w1) :
  if Region.wanted o (yielded ops a.tmps) = true then Oper.wp P o a (W.alloc (.cells cs.toArray e)).drew Kc Q else E := by
 have e1 : (W.alloc (.cells cs.toArray e)).drew = W.drew.alloc (.cells cs.toArray e) := rfl
 rw [e1]
 exact N_append_law d (W := W.drew) base hgd s x t e z bytes ho ht hinfo hz hs0 hb0 v xs p cs ok okp hs hx (Kd.FK_below hp (below_drew (Below.refl _ _))) hokp hfresh (Kd.N_drew HO) (below_drew1 HB) hbase hl (fun v1 w1 h1 h2 h3 h4 => h v1 w1 h1 h2 ⟨h3.os, h3.tape, h3.output, h3.size, h3.block⟩ h4)
theorem RdAt.told {B b : Nat} {ok : Nat → Prop} {x : Rd} {out : List S49} {w : World} {u v v1 : Value} (h0 : B ≤ b)
  (h1 : w.heap[b]? = some (.cells #[.bool x.ans, .string x.asked, .string x.head, .int .i64 x.kind, .int .i64 x.size, .string x.body, .int .i64 x.st, .int .i64 x.left, .string x.line, .int .i64 x.many, .string x.m, .string x.t, .int .i64 x.sc, .string x.rs, .int .i64 x.mi, u, .int .i64 x.er, v] 75 (0, 0)))
  (h2 : Kd.V k40 40 w B (fun k => (ok k ∧ k ≠ b) ∧ some k ≠ v1.ownBlock) u x.fs) (h3 : Kd.N k49 49 w B (fun k => ok k ∧ k ≠ b) v1 out) : RdAt B b ok x out (w.setCell ⟨b, 17, none⟩ v1) :=
 ⟨h0, u, v1, blk_put (cs := #[.bool x.ans, .string x.asked, .string x.head, .int .i64 x.kind, .int .i64 x.size, .string x.body, .int .i64 x.st, .int .i64 x.left, .string x.line, .int .i64 x.many, .string x.m, .string x.t, .int .i64 x.sc, .string x.rs, .int .i64 x.mi, u, .int .i64 x.er, v]) h1 17 v1 rfl, Kd.V_far h2 (fun k hk => hk.1.2) _, Kd.N_far h3 (fun k hk => hk.2) _⟩
theorem new_any (a : Bool) (s : ByteArray) (w : World) : Calls Tryz.prog 20 #[.bool a, .string s] w fun e w' => e = .returned (.agg #[.bool a, .string s, .string eB, .int .i64 0, .int .i64 0, .string eB, .int .i64 0, .int .i64 0, .string eB, .int .i64 0, .string eB, .string eB, .int .i64 0, .string eB, .int .i64 0, .slice none 0 0, .int .i64 0]) ∧ Below w.heap.size w w' := by
 go_enter Tryz.func20, Tryz.ntmps20
 go_wp2_with fail
 refine bodyPost_ret (results_cell_row rfl _ _ w.heap.size 32 #[.bool a, .string s, .string eB, .int .i64 0, .int .i64 0, .string eB, .int .i64 0, .int .i64 0, .string eB, .int .i64 0, .string eB, .string eB, .int .i64 0, .string eB, .int .i64 0, .slice none 0 0, .int .i64 0] (0, 0) _ rfl (heap_alloc_new w _) Tryz.underlying32 rfl (by kernel_rfl)) rfl ?_
 exact ⟨rfl, below_alloc (Below.refl _ _) _⟩
set_option maxHeartbeats 1600000 in
set_option maxRecDepth 100000 in
theorem tell_yes (b : Nat) (ok : Nat → Prop) (x : Rd) (out : List S49) (w0 w : World) (h : RdAt w0.heap.size b ok x out w) (hok : ∀ k, w0.heap.size ≤ k → ok k) (hB : Below w0.heap.size w0 w) (hx : x.whole = true) (hl : out.length < 1353245080339) :
  Calls Tryz.prog 39 #[.pointer (some ⟨b, 0, none⟩)] w fun e w' => e = .returned (.tuple #[]) ∧ RdAt w0.heap.size b ok (Rd.new x.ans x.asked) (out ++ [x.msg]) w' ∧ Below w0.heap.size w0 w' := by
 unfold Rd.whole at hx
 have HR := Lib.hid h
 have HB := Lib.hid hB
 obtain ⟨A, c, v, hv, H1, H2, H3⟩ := h.cells
 obtain ⟨c0, c1, c2, c3, c4, c5, c6, c7, c8, c9, c10, c11, c12, c13, c14, c15, c16, c17, f0, f1, f2, f3, f4, f5, f6, f7, f8, f9, f10, f11, f12, f13, f14, f15, f16, f17⟩ := cz18 H1.out
 have hlt := Lib.hid (World.block_lt_of_cell? w _ c0)
 have hl2 := Lib.hid hl
 have a17 : (w.alloc (.cells #[.string x.m, .string x.t, .int .i64 x.sc, .string x.rs, .int .i64 x.mi, .slice A x.fs.length c, .string x.body] 49)).cell? ⟨b, 17, none⟩ = some v := (World.cell?_alloc_lt w _ ⟨b, 17, none⟩ (show b < w.heap.size from hlt.out)).trans c17
 clear h hB hl
 go_enter Tryz.func39, Tryz.ntmps39
 go_upto_block 0 with (fail)
 go_cut [2] (fun v2 wc => v2 = .bool true ∧ Aside0 (RdAt w0.heap.size b ok x out wc) ∧ Aside0 (Below w0.heap.size w0 wc))
 case first =>
  by_cases k1 : x.kind = 1
  ·obtain ⟨b1, b2⟩ := zd k1
   clear k1 hx
   go_wp2_with fail
   go_meet
   case rel => exact ⟨rfl, ⟨HR.out⟩, ⟨HB.out⟩⟩
  rw [if_neg k1] at hx
  obtain ⟨b1, b2⟩ := ze k1
  by_cases k2 : x.kind = 2
  ·rw [if_pos k2] at hx
   obtain ⟨d1, d2⟩ := zd k2
   clear k1 k2
   go_wp2_with fail
   go_quiet (fail)
   go_wp2_with fail
   go_meet
   case rel => exact ⟨rfl, ⟨HR.out.below (pw_below_drewN (Below.refl _ _) _)⟩, ⟨pw_below_drewN HB.out _⟩⟩
  rw [if_neg k2] at hx
  obtain ⟨d1, d2⟩ := ze k2
  by_cases k3 : x.kind = 3
  ·rw [if_pos k3] at hx
   obtain ⟨g1, g2⟩ := zd k3
   clear k1 k2 k3
   go_wp2_with fail
   go_meet
   case rel => exact ⟨rfl, ⟨HR.out⟩, ⟨HB.out⟩⟩
  ·rw [if_neg k3] at hx
   cases hx
 case rest =>
  obtain ⟨rfl, HR1, HB1⟩ := hcut
  clear hx HR HB H1 H2 H3 a17 hlt hv c0 c1 c2 c3 c4 c5 c6 c7 c8 c9 c10 c11 c12 c13 c14 c15 c16 c17 f0 f1 f2 f3 f4 f5 f6 f7 f8 f9 f10 f11 f12 f13 f14 f15 f16 f17
  have HR := Lib.hid HR1.out
  have HB := Lib.hid HB1.out
  obtain ⟨A, c, v, hv, H1, H2, H3⟩ := HR1.out.cells
  obtain ⟨c0, c1, c2, c3, c4, c5, c6, c7, c8, c9, c10, c11, c12, c13, c14, c15, c16, c17, f0, f1, f2, f3, f4, f5, f6, f7, f8, f9, f10, f11, f12, f13, f14, f15, f16, f17⟩ := cz18 H1.out
  have hlt : Hid (b < wc.heap.size) := Lib.hid (World.block_lt_of_cell? _ _ c0)
  have a17 := fun o => (World.cell?_alloc_lt _ o ⟨b, 17, none⟩ hlt.out).trans c17
  replace a17 := a17 (.cells #[.string x.m, .string x.t, .int .i64 x.sc, .string x.rs, .int .i64 x.mi, .slice A x.fs.length c, .string x.body] 49)
  clear HR1 HB1
  go_upto_region 9 with (fail)
  go_cut [53] (fun _ wd => Aside0 (RdAt w0.heap.size b ok x (out ++ [x.msg]) wd) ∧ Aside0 (Below w0.heap.size w0 wd))
  case first =>
   go_region_law (refine N_append_drew k49 (w0 := w0) w0.heap.size rfl (.tmp 40) (.tmp 52) 44 49 (.agg #[(.string ⟨#[]⟩), (.string ⟨#[]⟩), (.int .i64 0), (.string ⟨#[]⟩), (.int .i64 0), (.slice none 0 0), (.string ⟨#[]⟩)]) 104 rfl Tryz.underlying44 info49 rfl (by decide) (by omega) v out x.msg [.string x.m, .string x.t, .int .i64 x.sc, .string x.rs, .int .i64 x.mi, .slice A x.fs.length c, .string x.body] (fun k => ok k ∧ k ≠ b) (fun k => (ok k ∧ k ≠ b) ∧ some k ≠ v.ownBlock) rfl rfl ?aP (fun _ hk => hk) ?aF ?aO ?aB ?aS ?aL ?_; (case aP => exact k49_mkF _ _ x.msg (Kd.V_reads' H2.out).2.1 (Kd.V_F H2.out)); (case aF => exact fun k hk => ⟨hok k (Nat.le_trans HB.out.size hk), by have := hlt.out; omega⟩); (case aO => exact H3.out); (case aB => exact HB.out); (case aS => exact HB.out.size); (case aL => have := hl2.out; omega); intro v1 w1 ho hb hg hat; obtain ⟨ao, co, rfl⟩ := Kd.N_slice ho; rw [show (out ++ [x.msg]).length = out.length + 1 from by simp] at ho hat; have BK1 := Lib.hid (blk_grown H1.out hg (fun e => hv e.symm)); have HV1 := Lib.hid (Kd.V_afterv H2.out hg hat); have HN1 := Lib.hid ho; have HB1 := Lib.hid hb; clear hb ho hg hat; have d17 := (blk_cell BK1.out 17).trans rfl; have e17 := blk_frozen BK1.out 17)
   all_goals
    have HR2 := Lib.hid (RdAt.told HR.out.1 BK1.out HV1.out HN1.out)
    have HB2 := Lib.hid (HB1.out.setCell (p := ⟨b, 17, none⟩) HR.out.1 (.slice ao (out.length + 1) co))
    go_wp2_with fail
    go_meet
    case rel => exact ⟨⟨HR2.out⟩, ⟨HB2.out⟩⟩
  case rest =>
   obtain ⟨HR2, HB2⟩ := hcut
   clear hl2 hlt HR HB H1 H2 H3 a17 hv c0 c1 c2 c3 c4 c5 c6 c7 c8 c9 c10 c11 c12 c13 c14 c15 c16 c17 f0 f1 f2 f3 f4 f5 f6 f7 f8 f9 f10 f11 f12 f13 f14 f15 f16 f17
   obtain ⟨A2, k2, v2, hv2, H1, H2, H3⟩ := HR2.out.cells
   have c0 := (blk_cell H1.out 0).trans rfl
   have c1 := (blk_cell H1.out 1).trans rfl
   clear H2 H3 hv2
   go_wp2_with fail
   go_region_with ((go_at_call 20; refine (new_any _ _ _).mono ?_; rintro e w4 ⟨rfl, hb⟩; have HR4 := Lib.hid ((HR2.out.below (below_drew (Below.refl _ _))).below hb); have HB4 := Lib.hid ((below_drew1 HB2.out).trans (hb.mono (below_drew1 HB2.out).size)); clear hb; obtain ⟨A4, k4, v4, hv4, H1, H2, H3⟩ := HR4.out.cells; obtain ⟨d0, d1, d2, d3, d4, d5, d6, d7, d8, d9, d10, d11, d12, d13, d14, d15, d16, -, f0, f1, f2, f3, f4, f5, f6, f7, f8, f9, f10, f11, f12, f13, f14, f15, f16, -⟩ := cz18 H1.out; clear H1 H2 H3 hv4))
   all_goals
    go_wp2_with fail
    go_end0
    exact ⟨rfl, HR4.out.whole (Rd.new x.ans x.asked) rfl, below_set17 HB4.out HR4.out.1 _ _ _ _ _ _ _ _ _ _ _ _ _ _ _ _ _⟩
end Go.Proofs.YtapeodbgobkjeaaGreatDoor.P
namespace Go.Proofs.YtapeodbgobkjeaaGreatDoor.P
open Go.RowKit Go.Shelf Go.Lib Go.Proofs.YtapeodbgobkjeaaGreatDoorW.PrintWords Go.Proofs.YtapeodbgobkjeaaGreatDoorW.PrintLast Go.Proofs.YtapeodbgobkjeaaGreatDoorW.PrintMore
attribute [local go_sem] max2_int min2_int max_two min_two
theorem RdAt.body {B b : Nat} {ok : Nat → Prop} {x : Rd} {out : List S49} {w : World} (h : RdAt B b ok x out w) (y : ByteArray) : RdAt B b ok { x with body := y } out (w.setCell ⟨b, 5, none⟩ (.string y)) := by
 obtain ⟨h0, u, v, h1, h2, h3⟩ := h
 exact ⟨h0, u, v, blk_put (cs := #[.bool x.ans, .string x.asked, .string x.head, .int .i64 x.kind, .int .i64 x.size, .string x.body, .int .i64 x.st, .int .i64 x.left, .string x.line, .int .i64 x.many, .string x.m, .string x.t, .int .i64 x.sc, .string x.rs, .int .i64 x.mi, u, .int .i64 x.er, v]) h1 5 (.string y) rfl, Kd.V_far h2 (fun k hk => hk.1.2) _, Kd.N_far h3 (fun k hk => hk.2) _⟩
theorem RdAt.head' {B b : Nat} {ok : Nat → Prop} {x : Rd} {out : List S49} {w : World} (h : RdAt B b ok x out w) (y : ByteArray) : RdAt B b ok { x with head := y } out (w.setCell ⟨b, 2, none⟩ (.string y)) := by
 obtain ⟨h0, u, v, h1, h2, h3⟩ := h
 exact ⟨h0, u, v, blk_put (cs := #[.bool x.ans, .string x.asked, .string x.head, .int .i64 x.kind, .int .i64 x.size, .string x.body, .int .i64 x.st, .int .i64 x.left, .string x.line, .int .i64 x.many, .string x.m, .string x.t, .int .i64 x.sc, .string x.rs, .int .i64 x.mi, u, .int .i64 x.er, v]) h1 2 (.string y) rfl, Kd.V_far h2 (fun k hk => hk.1.2) _, Kd.N_far h3 (fun k hk => hk.2) _⟩
set_option maxHeartbeats 1600000 in
set_option maxRecDepth 100000 in
theorem plain_any (b : Nat) (ok : Nat → Prop) (x : Rd) (out : List S49) (s : ByteArray) (n : Nat) (w0 w : World) (h : RdAt w0.heap.size b ok x out w) (hB : Below w0.heap.size w0 w) (hs : s.size ≤ 4611686018427387904) (hb : x.body.size ≤ 4000) (hk : x.kind = 2 → (x.body.size : Int) ≤ x.size ∧ x.size ≤ 4000) (hn : n = if x.kind = 2 then min s.size (x.size.toNat - x.body.size) else s.size) :
  Calls Tryz.prog 63 #[.pointer (some ⟨b, 0, none⟩), .string s] w fun e w' => e = .returned (.int .i64 n) ∧ RdAt w0.heap.size b ok (if x.body.size + n > 4000 then x.fail 2 else { x with body := x.body ++ s.extract 0 n }) out w' ∧ Below w0.heap.size w0 w' := by
 have HR := Lib.hid h
 have HB := Lib.hid hB
 obtain ⟨A, c, v, hv, H1, H2, H3⟩ := h.cells
 obtain ⟨-, -, -, c3, c4, c5, -⟩ := cz18 H1.out
 have hns : n ≤ s.size := by subst hn; split <;> omega
 have hwk : x.kind = 2 → wrap64 (x.size - (x.body.size : Int)) = ((x.size.toNat - x.body.size : Nat) : Int) := fun e => by have := hk e; unfold wrap64; omega
 have HNN : Hid (x.kind = 2 → n = min s.size (x.size.toNat - x.body.size)) := Lib.hid (fun e => by rw [if_pos e] at hn; exact hn)
 have hno : ¬ x.kind = 2 → (n : Int) = (s.size : Int) := fun e => by rw [if_neg e] at hn; rw [hn]
 have hsum : wrap64 ((x.body.size : Int) + (n : Int)) = (x.body.size : Int) + (n : Int) := by unfold wrap64; omega
 have HS := Lib.hid hs
 have HN := Lib.hid hns
 have HSUM := Lib.hid hsum
 clear h hB H1 H2 H3 hv hn hk hs hns hsum hb
 go_enter Tryz.func63, Tryz.ntmps63
 go_upto_if 14 with (fail)
 go_cut [5] (fun v5 wc => v5 = .int .i64 n ∧ Aside0 (RdAt w0.heap.size b ok x out wc) ∧ Aside0 (Below w0.heap.size w0 wc))
 case first =>
  by_cases k2 : x.kind = 2
  ·have e1 := hwk k2
   have e2 : Hid (n = min s.size (x.size.toNat - x.body.size)) := Lib.hid (HNN.out k2)
   obtain ⟨d1, d2⟩ := zd k2
   clear k2 hwk hno
   go_wp2_with fail
   go_quiet (fail)
   go_wp2_with fail
   all_goals
    go_meet
    case rel => exact ⟨congrArg (Value.int .i64) (by have := e2.out; omega), ⟨HR.out.below (pw_below_drewN (Below.refl _ _) _)⟩, ⟨pw_below_drewN HB.out _⟩⟩
  ·have e1 := Lib.hid (hno k2)
   obtain ⟨d1, d2⟩ := ze k2
   clear k2 hwk hno
   go_wp2_with fail
   go_meet
   case rel => exact ⟨congrArg (Value.int .i64) e1.out.symm, ⟨HR.out⟩, ⟨HB.out⟩⟩
 case rest =>
  obtain ⟨rfl, HR1, HB1⟩ := hcut
  clear HR HB hwk hno c3 c4 c5
  obtain ⟨A2, k2, v2, hv2, H1, H2, H3⟩ := HR1.out.cells
  obtain ⟨-, -, -, -, -, c5, -⟩ := cz18 H1.out
  have e1 := HSUM.out
  by_cases hl : x.body.size + n > 4000
  ·have HL := Lib.hid hl
   have d : decide ((4000 : Int) < (x.body.size : Int) + (n : Int)) = true := decide_eq_true (by omega)
   clear hl H1 H2 H3 hv2
   go_wp2_with ((go_at_call 87; refine (fail_any b ok x out 2 w0 _ HR1.out HB1.out).mono ?_; rintro e w4 ⟨rfl, hr, hb⟩; have HR4 := Lib.hid hr; have HB4 := Lib.hid hb; clear hr hb))
   go_ret
   exact ⟨rfl, by first | exact HR4.out | (rw [if_pos HL.out]; exact HR4.out), HB4.out⟩
  ·have HL := Lib.hid hl
   have d : decide ((4000 : Int) < (x.body.size : Int) + (n : Int)) = false := decide_eq_false (by omega)
   clear hl H2 H3 hv2
   have p0 : (0 : Int) ≤ (n : Int) := by omega
   have p1 : (n : Int) ≤ (s.size : Int) := by have := HN.out; omega
   have za : (9223372036854775807 < x.body.size + (s.extract 0 n).size) = False := eq_false (by rw [ByteArray.size_extract]; have := HN.out; have := HL.out; omega)
   have zb' : (9223372036854775807 < x.body.size + min n s.size) = False := eq_false (by have := HN.out; have := HL.out; omega)
   have zc' : (9223372036854775807 < x.body.size + n) = False := eq_false (by have := HL.out; omega)
   go_wp2_with fail
   go_still_tail 9, (by kernel_rfl)
   change wpList _ _ _ _ _ wc.drew
   have HR2 := Lib.hid (HR1.out.below (below_drew (Below.refl _ _)))
   have HB2 := Lib.hid (below_drew1 HB1.out)
   replace H1 := Aside0.mk (blk_drew H1.out)
   clear HR1 HB1 c5
   generalize wc.drew = w3 at H1 HR2 HB2 ⊢
   have g5 := (blk_cell H1.out 5).trans rfl
   have f5 := blk_frozen H1.out 5
   go_wp2_with fail
   go_ret
   exact ⟨rfl, by first | exact HR2.out.body _ | (rw [if_neg HL.out]; exact HR2.out.body _), HB2.out.setCell (p := ⟨b, 5, none⟩) HR2.out.1 _⟩
end Go.Proofs.YtapeodbgobkjeaaGreatDoor.P
namespace Go.Proofs.YtapeodbgobkjeaaGreatDoor.P
open Go.RowKit Go.Shelf Go.Lib Go.Proofs.YtapeodbgobkjeaaGreatDoorW.PrintWords Go.Proofs.YtapeodbgobkjeaaGreatDoorW.PrintLast Go.Proofs.YtapeodbgobkjeaaGreatDoorW.PrintMore
theorem RdAt.chunk {B b : Nat} {ok : Nat → Prop} {x : Rd} {out : List S49} {w : World} (h : RdAt B b ok x out w) (i j : Int) (l : ByteArray) (m : Int) : RdAt B b ok { x with st := i, left := j, line := l, many := m } out ((((w.setCell ⟨b, 6, none⟩ (.int .i64 i)).setCell ⟨b, 7, none⟩ (.int .i64 j)).setCell ⟨b, 8, none⟩ (.string l)).setCell ⟨b, 9, none⟩ (.int .i64 m)) := by
 obtain ⟨h0, u, v, h1, h2, h3⟩ := h
 refine ⟨h0, u, v, ?_, Kd.V_far (Kd.V_far (Kd.V_far (Kd.V_far h2 (fun k hk => hk.1.2) _) (fun k hk => hk.1.2) _) (fun k hk => hk.1.2) _) (fun k hk => hk.1.2) _, Kd.N_far (Kd.N_far (Kd.N_far (Kd.N_far h3 (fun k hk => hk.2) _) (fun k hk => hk.2) _) (fun k hk => hk.2) _) (fun k hk => hk.2) _⟩
 exact blk_put (cs := #[.bool x.ans, .string x.asked, .string x.head, .int .i64 x.kind, .int .i64 x.size, .string x.body, .int .i64 i, .int .i64 j, .string l, .int .i64 x.many, .string x.m, .string x.t, .int .i64 x.sc, .string x.rs, .int .i64 x.mi, u, .int .i64 x.er, v]) (blk_put (cs := #[.bool x.ans, .string x.asked, .string x.head, .int .i64 x.kind, .int .i64 x.size, .string x.body, .int .i64 i, .int .i64 j, .string x.line, .int .i64 x.many, .string x.m, .string x.t, .int .i64 x.sc, .string x.rs, .int .i64 x.mi, u, .int .i64 x.er, v]) (blk_put (cs := #[.bool x.ans, .string x.asked, .string x.head, .int .i64 x.kind, .int .i64 x.size, .string x.body, .int .i64 i, .int .i64 x.left, .string x.line, .int .i64 x.many, .string x.m, .string x.t, .int .i64 x.sc, .string x.rs, .int .i64 x.mi, u, .int .i64 x.er, v]) (blk_put (cs := #[.bool x.ans, .string x.asked, .string x.head, .int .i64 x.kind, .int .i64 x.size, .string x.body, .int .i64 x.st, .int .i64 x.left, .string x.line, .int .i64 x.many, .string x.m, .string x.t, .int .i64 x.sc, .string x.rs, .int .i64 x.mi, u, .int .i64 x.er, v]) h1 6 (.int .i64 i) rfl) 7 (.int .i64 j) rfl) 8 (.string l) rfl) 9 (.int .i64 m) rfl
set_option maxHeartbeats 1600000 in
set_option maxRecDepth 100000 in
theorem chunked_err (k b : Nat) (ok : Nat → Prop) (x : Rd) (out : List S49) (s : ByteArray) (r1 r2 : Int) (r3 : ByteArray) (r4 n : Int) (bb : ByteArray) (e0 : Int) (w0 w : World) (h : RdAt w0.heap.size b ok x out w) (hB : Below w0.heap.size w0 w) (hf : chunk_Feed.f k x.st x.left x.line x.many s = some (r1, r2, r3, r4, n, bb, e0)) (he : e0 ≠ 0) :
  Calls Tryz.prog 62 #[.pointer (some ⟨b, 0, none⟩), .string s] w fun e w' => e = .returned (.int .i64 s.size) ∧ RdAt w0.heap.size b ok (x.fail e0) out w' ∧ Below w0.heap.size w0 w' := by
 have HR := Lib.hid h
 have HB := Lib.hid hB
 have HF := Lib.hid hf
 obtain ⟨A, c, v, hv, H1, H2, H3⟩ := h.cells
 obtain ⟨-, -, -, -, -, -, c6, c7, c8, c9, -⟩ := cz18 H1.out
 have d : (e0 != 0) = true := bne_iff_ne.mpr he
 clear h hB hf H1 H2 H3 hv he
 go_enter Tryz.func62, Tryz.ntmps62
 go_wp2_with (first
  | (go_at_call 88; refine (chunk_Feed.calls k _ _ _ _ _ _ _ _ _ _ _ _ _ HF.out).mono ?_; rintro e w4 ⟨rfl, hb⟩; have HR4 := Lib.hid (HR.out.below hb); have HB4 := Lib.hid (HB.out.trans (hb.mono HB.out.size)); clear hb)
  | (go_at_call 87; refine (fail_any b ok x out e0 w0 _ (HR4.out.below (below_alloc (Below.refl _ _) _)) (HB4.out.alloc HB4.out.size _)).mono ?_; rintro e w5 ⟨rfl, hr, hb⟩; have HR5 := Lib.hid hr; have HB5 := Lib.hid hb; clear hr hb))
 go_ret
 exact ⟨rfl, HR5.out, HB5.out⟩
set_option maxHeartbeats 1600000 in
set_option maxRecDepth 100000 in
theorem chunked_ok (k b : Nat) (ok : Nat → Prop) (x : Rd) (out : List S49) (s : ByteArray) (r1 r2 : Int) (r3 : ByteArray) (r4 n : Int) (bb : ByteArray) (w0 w : World) (h : RdAt w0.heap.size b ok x out w) (hB : Below w0.heap.size w0 w) (hf : chunk_Feed.f k x.st x.left x.line x.many s = some (r1, r2, r3, r4, n, bb, 0)) (hz : x.body.size + bb.size ≤ 9223372036854775807) :
  Calls Tryz.prog 62 #[.pointer (some ⟨b, 0, none⟩), .string s] w fun e w' => e = .returned (.int .i64 n) ∧ RdAt w0.heap.size b ok { x with st := r1, left := r2, line := r3, many := r4, body := x.body ++ bb } out w' ∧ Below w0.heap.size w0 w' := by
 have HR := Lib.hid h
 have HB := Lib.hid hB
 have HF := Lib.hid hf
 obtain ⟨A, c, v, hv, H1, H2, H3⟩ := h.cells
 obtain ⟨-, -, -, -, -, -, c6, c7, c8, c9, -⟩ := cz18 H1.out
 have za : (9223372036854775807 < x.body.size + bb.size) = False := eq_false (by omega)
 clear h hB hf H1 H2 H3 hv hz
 go_enter Tryz.func62, Tryz.ntmps62
 go_upto_region 5 with (first
  | (go_at_call 88; refine (chunk_Feed.calls k _ _ _ _ _ _ _ _ _ _ _ _ _ HF.out).mono ?_; rintro e w4 ⟨rfl, hb⟩; have HR4 := Lib.hid (HR.out.below hb); have HB4 := Lib.hid (HB.out.trans (hb.mono HB.out.size)); clear hb))
 have HR5 := Lib.hid (HR4.out.below (below_alloc (Below.refl w4.heap.size w4) (.cells #[.int .i64 r1, .int .i64 r2, .string r3, .int .i64 r4] 26)))
 have HB5 := Lib.hid (HB4.out.alloc HB4.out.size (.cells #[.int .i64 r1, .int .i64 r2, .string r3, .int .i64 r4] 26))
 have HG := Lib.hid (heap_alloc_new w4 (.cells #[.int .i64 r1, .int .i64 r2, .string r3, .int .i64 r4] 26))
 clear HR HB HF c6 c7 c8 c9 HR4 HB4
 generalize w4.alloc (.cells #[.int .i64 r1, .int .i64 r2, .string r3, .int .i64 r4] 26) = w5 at HR5 HB5 HG ⊢
 generalize w4.heap.size = g at HG ⊢
 have q0 : w5.cell? ⟨g, 0, none⟩ = some (.int .i64 r1) := (blk_cell HG.out 0).trans rfl
 have q1 : w5.cell? ⟨g, 1, none⟩ = some (.int .i64 r2) := (blk_cell HG.out 1).trans rfl
 have q2 : w5.cell? ⟨g, 2, none⟩ = some (.string r3) := (blk_cell HG.out 2).trans rfl
 have q3 : w5.cell? ⟨g, 3, none⟩ = some (.int .i64 r4) := (blk_cell HG.out 3).trans rfl
 obtain ⟨A5, k5, v5, hv5, H1, H2, H3⟩ := HR5.out.cells
 obtain ⟨-, -, -, -, -, c5, c6, c7, c8, c9, -, -, -, -, -, -, -, -, -, -, -, -, -, f5, f6, f7, f8, f9, -⟩ := cz18 H1.out
 clear H1 H2 H3 hv5
 go_wp2_with fail
 go_ret
 exact ⟨rfl, (HR5.out.chunk r1 r2 r3 r4).body (x.body ++ bb), ((((HB5.out.setCell (p := ⟨b, 6, none⟩) HR5.out.1 _).setCell (p := ⟨b, 7, none⟩) HR5.out.1 _).setCell (p := ⟨b, 8, none⟩) HR5.out.1 _).setCell (p := ⟨b, 9, none⟩) HR5.out.1 _).setCell (p := ⟨b, 5, none⟩) HR5.out.1 _⟩
end Go.Proofs.YtapeodbgobkjeaaGreatDoor.P
namespace Go.Proofs.YtapeodbgobkjeaaGreatDoor.P
open Go.RowKit Go.Shelf Go.Lib Go.Proofs.YtapeodbgobkjeaaGreatDoorW.PrintWords Go.Proofs.YtapeodbgobkjeaaGreatDoorW.PrintLast Go.Proofs.YtapeodbgobkjeaaGreatDoorW.PrintMore
theorem put17s {w : World} {g : Nat} {t : TypeId} {c0 c1 c2 c3 c4 c5 c6 c7 c8 c9 c10 c11 c12 c13 c14 c15 c16 : Value} (h : w.heap[g]? = some (.cells #[c0, c1, c2, c3, c4, c5, c6, c7, c8, c9, c10, c11, c12, c13, c14, c15, c16] t (0, 0))) (v0 v1 v2 v3 v4 v5 v6 v7 v8 v9 v10 v11 v12 v13 v14 v15 v16 : Value) : (set17 w g v0 v1 v2 v3 v4 v5 v6 v7 v8 v9 v10 v11 v12 v13 v14 v15 v16).heap[g]? = some (.cells #[v0, v1, v2, v3, v4, v5, v6, v7, v8, v9, v10, v11, v12, v13, v14, v15, v16] t (0, 0)) := p17_16 (p17_15 (p17_14 (p17_13 (p17_12 (p17_11 (p17_10 (p17_9 (p17_8 (p17_7 (p17_6 (p17_5 (p17_4 (p17_3 (p17_2 (p17_1 (p17_0 h))))))))))))))))
section
variable {a : Act} {W : World} {g : Nat} {o : Oper} {p x : Operand} {c0 c1 c2 c3 c4 c5 c6 c7 c8 c9 c10 c11 c12 c13 c14 c15 c16 c17 : Value}
set_option maxHeartbeats 1600000 in
set_option maxRecDepth 100000 in
theorem run_load17 (ho : o.op = .load 32 p) (hp : a.eval p = .pointer (some ⟨g, 0, none⟩)) (h : W.heap[g]? = some (.cells #[c0, c1, c2, c3, c4, c5, c6, c7, c8, c9, c10, c11, c12, c13, c14, c15, c16] 32 (0, 0))) :
  (execOp a.eval o).run Tryz.prog W = .ok (.value (.agg #[c0, c1, c2, c3, c4, c5, c6, c7, c8, c9, c10, c11, c12, c13, c14, c15, c16])) W := by
 obtain ⟨c0, c1, c2, c3, c4, c5, c6, c7, c8, c9, c10, c11, c12, c13, c14, c15, c16, -⟩ := cz17 h
 unfold execOp
 rw [ho]
 dsimp only
 rw [hp]
 first | (go_simp; done) | (go_simp; rfl) | (trace_state; sorry)
set_option maxHeartbeats 1600000 in
set_option maxRecDepth 100000 in
theorem run_load18 (ho : o.op = .load 32 p) (hp : a.eval p = .pointer (some ⟨g, 0, none⟩)) (h : W.heap[g]? = some (.cells #[c0, c1, c2, c3, c4, c5, c6, c7, c8, c9, c10, c11, c12, c13, c14, c15, c16, c17] 75 (0, 0))) :
  (execOp a.eval o).run Tryz.prog W = .ok (.value (.agg #[c0, c1, c2, c3, c4, c5, c6, c7, c8, c9, c10, c11, c12, c13, c14, c15, c16])) W := by
 obtain ⟨c0, c1, c2, c3, c4, c5, c6, c7, c8, c9, c10, c11, c12, c13, c14, c15, c16, -⟩ := cz18 h
 unfold execOp
 rw [ho]
 dsimp only
 rw [hp]
 first | (go_simp; done) | (go_simp; rfl) | (trace_state; sorry)
set_option maxHeartbeats 3200000 in
set_option maxRecDepth 100000 in
theorem run_store17 {v0 : Bool} {v1 : ByteArray} {v2 : ByteArray} {v3 : Int} {v4 : Int} {v5 : ByteArray} {v6 : Int} {v7 : Int} {v8 : ByteArray} {v9 : Int} {v10 : ByteArray} {v11 : ByteArray} {v12 : Int} {v13 : ByteArray} {v14 : Int} {v16 : Int} {A : Option Addr} {n c : Nat} (ho : o.op = .store 32 p x) (hp : a.eval p = .pointer (some ⟨g, 0, none⟩)) (hx : a.eval x = .agg #[.bool v0, .string v1, .string v2, .int .i64 v3, .int .i64 v4, .string v5, .int .i64 v6, .int .i64 v7, .string v8, .int .i64 v9, .string v10, .string v11, .int .i64 v12, .string v13, .int .i64 v14, .slice A n c, .int .i64 v16]) (h : W.heap[g]? = some (.cells #[c0, c1, c2, c3, c4, c5, c6, c7, c8, c9, c10, c11, c12, c13, c14, c15, c16] 32 (0, 0))) :
  (execOp a.eval o).run Tryz.prog W = .ok .skip (set17 W g (.bool v0) (.string v1) (.string v2) (.int .i64 v3) (.int .i64 v4) (.string v5) (.int .i64 v6) (.int .i64 v7) (.string v8) (.int .i64 v9) (.string v10) (.string v11) (.int .i64 v12) (.string v13) (.int .i64 v14) (.slice A n c) (.int .i64 v16)) := by
 obtain ⟨c0, c1, c2, c3, c4, c5, c6, c7, c8, c9, c10, c11, c12, c13, c14, c15, c16, f0, f1, f2, f3, f4, f5, f6, f7, f8, f9, f10, f11, f12, f13, f14, f15, f16⟩ := cz17 h
 unfold execOp
 rw [ho]
 dsimp only
 rw [hp, hx]
 first | (go_simp; done) | (go_simp; rfl) | (trace_state; sorry)
end
end Go.Proofs.YtapeodbgobkjeaaGreatDoor.P
namespace Go.Proofs.YtapeodbgobkjeaaGreatDoor.P
open Go.RowKit Go.Shelf Go.Lib Go.Proofs.YtapeodbgobkjeaaGreatDoorW.PrintWords Go.Proofs.YtapeodbgobkjeaaGreatDoorW.PrintLast Go.Proofs.YtapeodbgobkjeaaGreatDoorW.PrintMore
def crlf2 : ByteArray := ⟨#[13, 10, 13, 10]⟩
def trimH (h : ByteArray) : ByteArray := ⟨(Lib.trimSuffix h.data.toList crlf2.data.toList).toArray⟩
def endsH (h : ByteArray) : Bool := Lib.hasSuffix h.data.toList crlf2.data.toList
def Rd.put (x : Rd) (m t : ByteArray) (sc : Int) (rs : ByteArray) (mi : Int) (fs : List S40) (kind size : Int) : Rd := { x with head := eB, kind := kind, size := size, m := m, t := t, sc := sc, rs := rs, mi := mi, fs := fs }
def frO (k : Nat) (ans : Bool) (asked m t : ByteArray) (sc : Int) (rs : ByteArray) (mi : Int) (fs : List S40) : Option (Int × Int × Int) :=
 if ans = true then frame_Answer.f k m t sc rs mi fs asked else frame_Request.f k m t sc rs mi fs
def framedO (k : Nat) (x : Rd) : Option Rd :=
 (head_Parse.f k (trimH x.head) x.ans).bind fun q =>
  if q.2.2.2.2.2.2 = 0 then
   (frO k x.ans x.asked q.1 q.2.1 q.2.2.1 q.2.2.2.1 q.2.2.2.2.1 q.2.2.2.2.2.1).bind fun f =>
    if f.2.2 = 0 then some (x.put q.1 q.2.1 q.2.2.1 q.2.2.2.1 q.2.2.2.2.1 q.2.2.2.2.2.1 f.1 f.2.1) else some (x.fail f.2.2)
  else some (x.fail q.2.2.2.2.2.2)
def Rd.more (x : Rd) (s : ByteArray) (i : Nat) : Rd := { x with head := x.head ++ s.extract i (i + 1) }
def headO (k : Nat) (s : ByteArray) : Nat → Nat → Rd → Option (Rd × Nat)
 | 0, _, x => some (x, s.size)
 | d + 1, i, x =>
  if endsH (x.more s i).head = true then (framedO k (x.more s i)).bind fun y => some (y, i + 1)
  else if 2004 ≤ (x.more s i).head.size then some (x.fail 2, i + 1)
  else headO k s d (i + 1) (x.more s i)
def chunkO (k : Nat) (s : ByteArray) (x : Rd) : Option (Rd × Nat) :=
 (chunk_Feed.f k x.st x.left x.line x.many s).bind fun r =>
  if r.2.2.2.2.2.2 = 0 then
   if x.body.size + r.2.2.2.2.2.1.size ≤ 9223372036854775807 ∧ 0 ≤ r.2.2.2.2.1 ∧ r.2.2.2.2.1 ≤ (s.size : Int) then
    some ({ x with st := r.1, left := r.2.1, line := r.2.2.1, many := r.2.2.2.1, body := x.body ++ r.2.2.2.2.2.1 }, r.2.2.2.2.1.toNat)
   else none
  else some (x.fail r.2.2.2.2.2.2, s.size)
def plainN (x : Rd) (s : ByteArray) : Nat := if x.kind = 2 then min s.size (x.size.toNat - x.body.size) else s.size
def plainO (s : ByteArray) (x : Rd) : Option (Rd × Nat) :=
 if x.body.size ≤ 4000 ∧ (x.kind = 2 → (x.body.size : Int) ≤ x.size ∧ x.size ≤ 4000) then
  some (if x.body.size + plainN x s > 4000 then x.fail 2 else { x with body := x.body ++ s.extract 0 (plainN x s) }, plainN x s)
 else none
def someO (k : Nat) (s : ByteArray) (x : Rd) : Option (Rd × Nat) :=
 if x.kind = 0 then (if x.head.size ≤ 2003 then headO k s s.size 0 x else none)
 else if x.kind = 3 then chunkO k s x else plainO s x
def feedO (k : Nat) : Nat → ByteArray → Rd → List S49 → Option (Rd × List S49)
 | 0, _, _, _ => none
 | n + 1, s, x, out =>
  if s.size = 0 then some (x, out)
  else if x.er = 0 then
   if s.size ≤ 4611686018427387904 ∧ out.length < 1353245080339 then
    (someO k s x).bind fun p =>
     if 1 ≤ p.2 ∧ p.2 ≤ s.size then
      if p.1.er = 0 then
       if p.1.whole = true then feedO k n (s.extract p.2 s.size) (Rd.new p.1.ans p.1.asked) (out ++ [p.1.msg])
       else feedO k n (s.extract p.2 s.size) p.1 out
      else feedO k n (s.extract p.2 s.size) p.1 out
     else none
   else none
  else some (x, out)
theorem frO_mono (k : Nat) (ans : Bool) (asked m t : ByteArray) (sc : Int) (rs : ByteArray) (mi : Int) (fs : List S40) : LeO (frO k ans asked m t sc rs mi fs) (frO (k + 1) ans asked m t sc rs mi fs) := by
 unfold frO
 exact .ite (frame_Answer.mono _ _ _ _ _ _ _ _) (frame_Request.mono _ _ _ _ _ _ _)
theorem framedO_mono (k : Nat) (x : Rd) : LeO (framedO k x) (framedO (k + 1) x) := by
 unfold framedO
 exact .bind (head_Parse.mono _ _ _) fun q => .ite (.bind (frO_mono _ _ _ _ _ _ _ _ _) fun f => .refl _) (.refl _)
theorem headO_mono (k : Nat) (s : ByteArray) : ∀ (d i : Nat) (x : Rd), LeO (headO k s d i x) (headO (k + 1) s d i x)
 | 0, _, _ => .refl _
 | d + 1, i, x => by
  unfold headO
  exact .ite (.bind (framedO_mono _ _) fun y => .refl _) (.ite (.refl _) (headO_mono k s d _ _))
theorem someO_mono (k : Nat) (s : ByteArray) (x : Rd) : LeO (someO k s x) (someO (k + 1) s x) := by
 unfold someO chunkO
 exact .ite (.ite (headO_mono _ _ _ _ _) (.refl _)) (.ite (.bind (chunk_Feed.mono _ _ _ _ _ _) fun r => .refl _) (.refl _))
theorem feedO_mono (k : Nat) : ∀ (n : Nat) (s : ByteArray) (x : Rd) (out : List S49), LeO (feedO k n s x out) (feedO (k + 1) (n + 1) s x out)
 | 0, _, _, _ => fun r h => by simp [feedO] at h
 | n + 1, s, x, out => by
  have ih := feedO_mono k n
  unfold feedO
  exact .ite (.refl _) (.ite (.ite (.bind (someO_mono _ _ _) fun p => .ite (.ite (.ite (ih _ _ _) (ih _ _ _)) (ih _ _ _)) (.refl _)) (.refl _)) (.refl _))
end Go.Proofs.YtapeodbgobkjeaaGreatDoor.P
