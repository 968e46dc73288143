/- The contract of what a reader does when a head's text is whole. -/
import Derived.Test.YtapeodbgobkjeaaGreatDoorMZ
set_option linter.unusedVariables false
set_option linter.unusedSimpArgs false
namespace Go.Proofs.YtapeodbgobkjeaaGreatDoor.P
open Go.RowKit Go.Shelf Go.Lib Go.Proofs.YtapeodbgobkjeaaGreatDoorW.PrintWords Go.Proofs.YtapeodbgobkjeaaGreatDoorW.PrintLast Go.Proofs.YtapeodbgobkjeaaGreatDoorW.PrintMore
theorem bcell {W w1 : World} (hb : Below W.heap.size W w1) : (∀ b o, b < W.heap.size → w1.cell? ⟨b, o, none⟩ = W.cell? ⟨b, o, none⟩) ∧ (∀ b o, b < W.heap.size → w1.frozen? ⟨b, o, none⟩ = W.frozen? ⟨b, o, none⟩) :=
  ⟨fun b o h => hb.cell (p := ⟨b, o, none⟩) h, fun b o h => hb.frozen (p := ⟨b, o, none⟩) h⟩
theorem RdAt.mono {B b : Nat} {ok ok' : Nat → Prop} {x : Rd} {out : List S49} {w : World} (h : RdAt B b ok x out w) (hok : ∀ k, ok k → ok' k) : RdAt B b ok' x out w := by
  obtain ⟨h0, u, v, h1, h2, h3⟩ := h
  exact ⟨h0, u, v, h1, Kd.V_mono h2 (fun k hk => ⟨⟨hok k hk.1.1, hk.1.2⟩, hk.2⟩), Kd.N_mono h3 (fun k hk => ⟨hok k hk.1, hk.2⟩)⟩
theorem RdAt.bound {B b : Nat} {ok : Nat → Prop} {x : Rd} {out : List S49} {w : World} (h : RdAt B b ok x out w) : RdAt B b (fun k => ok k ∧ k < w.heap.size) x out w := by
  obtain ⟨h0, u, v, h1, h2, h3⟩ := h
  exact ⟨h0, u, v, h1, Kd.V_mono (Kd.V_bound h2) (fun k hk => ⟨⟨⟨hk.1.1.1, hk.2⟩, hk.1.1.2⟩, hk.1.2⟩), Kd.N_mono (Kd.N_bound h3) (fun k hk => ⟨⟨hk.1.1, hk.2⟩, hk.1.2⟩)⟩
theorem RdAt.far {B b : Nat} {ok : Nat → Prop} {x : Rd} {out : List S49} {w : World} (h : RdAt B b ok x out w) {p : Addr} (hb : b ≠ p.block) (hok : ∀ k, ok k → k ≠ p.block) (y : Value) : RdAt B b ok x out (w.setCell p y) := by
  obtain ⟨h0, u, v, h1, h2, h3⟩ := h
  exact ⟨h0, u, v, blk_far h1 hb y, Kd.V_far h2 (fun k hk => hok k hk.1.1) _, Kd.N_far h3 (fun k hk => hok k hk.1) _⟩
theorem RdAt.lt {B b : Nat} {ok : Nat → Prop} {x : Rd} {out : List S49} {w : World} (h : RdAt B b ok x out w) : b < w.heap.size := by
  obtain ⟨h0, u, v, h1, h2, h3⟩ := h
  exact blk_lt h1
theorem RdAt.six {B b g : Nat} {ok : Nat → Prop} {x : Rd} {out : List S49} {w w1 : World} (h : RdAt B b ok x out w) (hb : Below w.heap.size w w1) (hg : w.heap.size ≤ g) (v0 v1 v2 v3 v4 v5 : Value) :
    RdAt B b ok x out ((((((w1.setCell ⟨g, 0, none⟩ v0).setCell ⟨g, 1, none⟩ v1).setCell ⟨g, 2, none⟩ v2).setCell ⟨g, 3, none⟩ v3).setCell ⟨g, 4, none⟩ v4).setCell ⟨g, 5, none⟩ v5) := by
  have hne : b ≠ g := by have := h.lt; omega
  have hk : ∀ k, (ok k ∧ k < w.heap.size) → k ≠ g := fun k hk => by have := hk.2; omega
  exact ((((((h.bound.below hb).far (p := ⟨g, 0, none⟩) hne hk v0).far (p := ⟨g, 1, none⟩) hne hk v1).far (p := ⟨g, 2, none⟩) hne hk v2).far (p := ⟨g, 3, none⟩) hne hk v3).far (p := ⟨g, 4, none⟩) hne hk v4).far (p := ⟨g, 5, none⟩) hne hk v5 |>.mono (fun _ hk => hk.1)
theorem RdAt.frame {B b : Nat} {ok : Nat → Prop} {x : Rd} {out : List S49} {w : World} (h : RdAt B b ok x out w) (i j : Int) : RdAt B b ok { x with kind := i, size := j } out ((w.setCell ⟨b, 3, none⟩ (.int .i64 i)).setCell ⟨b, 4, none⟩ (.int .i64 j)) := by
  obtain ⟨h0, u, v, h1, h2, h3⟩ := h
  exact ⟨h0, u, v, blk_put (cs := #[.bool x.ans, .string x.asked, .string x.head, .int .i64 i, .int .i64 x.size, .string x.body, .int .i64 x.st, .int .i64 x.left, .string x.line, .int .i64 x.many, .string x.m, .string x.t, .int .i64 x.sc, .string x.rs, .int .i64 x.mi, u, .int .i64 x.er, v]) (blk_put (cs := #[.bool x.ans, .string x.asked, .string x.head, .int .i64 x.kind, .int .i64 x.size, .string x.body, .int .i64 x.st, .int .i64 x.left, .string x.line, .int .i64 x.many, .string x.m, .string x.t, .int .i64 x.sc, .string x.rs, .int .i64 x.mi, u, .int .i64 x.er, v]) h1 3 (.int .i64 i) rfl) 4 (.int .i64 j) rfl,
    Kd.V_far (Kd.V_far h2 (fun k hk => hk.1.2) _) (fun k hk => hk.1.2) _, Kd.N_far (Kd.N_far h3 (fun k hk => hk.2) _) (fun k hk => hk.2) _⟩
theorem RdAt.now {B b L : Nat} {ok : Nat → Prop} {x : Rd} {out : List S49} {w : World} (h : RdAt B b (fun k => ok k ∧ k < L) x out w) (hb : b < L) (hok : ∀ k, L ≤ k → ok k) (m t : ByteArray) (sc : Int) (rs : ByteArray) (mi : Int) {A : Option Addr} {c : Nat} (fs : List S40)
    (hv : Kd.V k40 40 w B (fun k => L ≤ k) (.slice A fs.length c) fs) :
    RdAt B b ok { x with head := eB, m := m, t := t, sc := sc, rs := rs, mi := mi, fs := fs } out (((((((w.setCell ⟨b, 2, none⟩ (.string eB)).setCell ⟨b, 10, none⟩ (.string m)).setCell ⟨b, 11, none⟩ (.string t)).setCell ⟨b, 12, none⟩ (.int .i64 sc)).setCell ⟨b, 13, none⟩ (.string rs)).setCell ⟨b, 14, none⟩ (.int .i64 mi)).setCell ⟨b, 15, none⟩ (.slice A fs.length c)) := by
  obtain ⟨h0, u, v, h1, _, h3⟩ := h
  have hv2 : Kd.V k40 40 w B (fun k => (ok k ∧ k ≠ b) ∧ some k ≠ v.ownBlock) (.slice A fs.length c) fs := Kd.V_mono hv (fun k hk => ⟨⟨hok k hk, by omega⟩, fun e => by have := (h3.1 k e.symm).1.2; omega⟩)
  have h4 := Kd.N_mono h3 (ok' := fun k => ok k ∧ k ≠ b) (fun k hk => ⟨hk.1.1, hk.2⟩)
  have far : ∀ k, k ≠ b → (((((((w.setCell ⟨b, 2, none⟩ (.string eB)).setCell ⟨b, 10, none⟩ (.string m)).setCell ⟨b, 11, none⟩ (.string t)).setCell ⟨b, 12, none⟩ (.int .i64 sc)).setCell ⟨b, 13, none⟩ (.string rs)).setCell ⟨b, 14, none⟩ (.int .i64 mi)).setCell ⟨b, 15, none⟩ (.slice A fs.length c)).heap[k]? = w.heap[k]? := fun k hk => by simp only [heap_set k hk]
  exact ⟨h0, .slice A fs.length c, v, blk_put (cs := #[.bool x.ans, .string x.asked, .string eB, .int .i64 x.kind, .int .i64 x.size, .string x.body, .int .i64 x.st, .int .i64 x.left, .string x.line, .int .i64 x.many, .string m, .string t, .int .i64 sc, .string rs, .int .i64 mi, u, .int .i64 x.er, v]) (blk_put (cs := #[.bool x.ans, .string x.asked, .string eB, .int .i64 x.kind, .int .i64 x.size, .string x.body, .int .i64 x.st, .int .i64 x.left, .string x.line, .int .i64 x.many, .string m, .string t, .int .i64 sc, .string rs, .int .i64 x.mi, u, .int .i64 x.er, v]) (blk_put (cs := #[.bool x.ans, .string x.asked, .string eB, .int .i64 x.kind, .int .i64 x.size, .string x.body, .int .i64 x.st, .int .i64 x.left, .string x.line, .int .i64 x.many, .string m, .string t, .int .i64 sc, .string x.rs, .int .i64 x.mi, u, .int .i64 x.er, v]) (blk_put (cs := #[.bool x.ans, .string x.asked, .string eB, .int .i64 x.kind, .int .i64 x.size, .string x.body, .int .i64 x.st, .int .i64 x.left, .string x.line, .int .i64 x.many, .string m, .string t, .int .i64 x.sc, .string x.rs, .int .i64 x.mi, u, .int .i64 x.er, v]) (blk_put (cs := #[.bool x.ans, .string x.asked, .string eB, .int .i64 x.kind, .int .i64 x.size, .string x.body, .int .i64 x.st, .int .i64 x.left, .string x.line, .int .i64 x.many, .string m, .string x.t, .int .i64 x.sc, .string x.rs, .int .i64 x.mi, u, .int .i64 x.er, v]) (blk_put (cs := #[.bool x.ans, .string x.asked, .string eB, .int .i64 x.kind, .int .i64 x.size, .string x.body, .int .i64 x.st, .int .i64 x.left, .string x.line, .int .i64 x.many, .string x.m, .string x.t, .int .i64 x.sc, .string x.rs, .int .i64 x.mi, u, .int .i64 x.er, v]) (blk_put (cs := #[.bool x.ans, .string x.asked, .string x.head, .int .i64 x.kind, .int .i64 x.size, .string x.body, .int .i64 x.st, .int .i64 x.left, .string x.line, .int .i64 x.many, .string x.m, .string x.t, .int .i64 x.sc, .string x.rs, .int .i64 x.mi, u, .int .i64 x.er, v]) h1 2 (.string eB) rfl) 10 (.string m) rfl) 11 (.string t) rfl) 12 (.int .i64 sc) rfl) 13 (.string rs) rfl) 14 (.int .i64 mi) rfl) 15 (.slice A fs.length c) rfl, Kd.V_step hv2 (fun k hk _ => far k hk.1.2), Kd.N_step h4 (fun k hk _ => far k hk.2)⟩
def FrRel (w0 : World) (L b : Nat) (ok : Nat → Prop) (x : Rd) (out : List S49) (r1 r2 : ByteArray) (r3 : Int) (r4 : ByteArray) (r5 : Int) (r6 : List S40) (e0 : Int) (v2 v3 : Value) (wc : World) : Prop :=
  ∃ g ao co, v2 = .pointer (some ⟨g, 0, none⟩) ∧ v3 = .int .i64 e0 ∧ wc.heap[g]? = some (.cells #[.string r1, .string r2, .int .i64 r3, .string r4, .int .i64 r5, .slice ao r6.length co] 29 (0, 0)) ∧ L ≤ g ∧
    Kd.V k40 40 wc w0.heap.size (fun k => L ≤ k) (.slice ao r6.length co) r6 ∧ RdAt w0.heap.size b (fun k => ok k ∧ k < L) x out wc ∧ Below w0.heap.size w0 wc
section
variable {w0 w w' : World} {b : Nat} {ok : Nat → Prop} {x : Rd} {out : List S49} {r1 r2 : ByteArray} {r3 : Int} {r4 : ByteArray} {r5 : Int} {r6 : List S40} {e0 : Int} {ao : Option Addr} {co : Nat}
theorem FrRel.late (hR : RdAt w0.heap.size b ok x out w) (hB : Below w0.heap.size w0 w) (ho : Kd.R k40 40 w' w.drew.heap.size (fun _ => True) (.slice ao r6.length co) r6) (hb : Below w.drew.heap.size w.drew w') :
    FrRel w0 w.heap.size b ok x out r1 r2 r3 r4 r5 r6 e0 (.pointer (some ⟨w'.heap.size, 0, none⟩)) (.int .i64 e0) (w'.alloc (.cells #[.string r1, .string r2, .int .i64 r3, .string r4, .int .i64 r5, .slice ao r6.length co] 29)) := by
  have hd : Below w0.heap.size w0 w.drew := below_drew1 hB
  have hB2 := hd.trans (hb.mono hd.size)
  refine ⟨w'.heap.size, ao, co, rfl, rfl, heap_alloc_new w' _, hb.size, Kd.V_alloc (Kd.R_V (Kd.R_mono (Kd.R_bound ho) (fun k hk => hk.2.1))) _, ?_, hB2.alloc hB2.size _⟩
  exact ((hR.bound.below (below_drew (Below.refl _ _))).below hb).below (below_alloc (Below.refl _ _) _)
theorem FrRel.early (hR : RdAt w0.heap.size b ok x out w) (hB : Below w0.heap.size w0 w) (ho : Kd.R k40 40 w' (w.alloc (.cells #[.string ⟨#[]⟩, .string ⟨#[]⟩, .int .i64 0, .string ⟨#[]⟩, .int .i64 0, .slice none 0 0] 29)).drew.heap.size (fun _ => True) (.slice ao r6.length co) r6) (hb : Below (w.alloc (.cells #[.string ⟨#[]⟩, .string ⟨#[]⟩, .int .i64 0, .string ⟨#[]⟩, .int .i64 0, .slice none 0 0] 29)).drew.heap.size (w.alloc (.cells #[.string ⟨#[]⟩, .string ⟨#[]⟩, .int .i64 0, .string ⟨#[]⟩, .int .i64 0, .slice none 0 0] 29)).drew w') :
    FrRel w0 w.heap.size b ok x out r1 r2 r3 r4 r5 r6 e0 (.pointer (some ⟨w.heap.size, 0, none⟩)) (.int .i64 e0) ((((((w'.setCell ⟨w.heap.size, 0, none⟩ (.string r1)).setCell ⟨w.heap.size, 1, none⟩ (.string r2)).setCell ⟨w.heap.size, 2, none⟩ (.int .i64 r3)).setCell ⟨w.heap.size, 3, none⟩ (.string r4)).setCell ⟨w.heap.size, 4, none⟩ (.int .i64 r5)).setCell ⟨w.heap.size, 5, none⟩ (.slice ao r6.length co)) := by
  have hs : (w.alloc (.cells #[.string ⟨#[]⟩, .string ⟨#[]⟩, .int .i64 0, .string ⟨#[]⟩, .int .i64 0, .slice none 0 0] 29)).drew.heap.size = w.heap.size + 1 := by show (w.heap.push _).size = _; simp
  have ha : Below w.heap.size w (w.alloc (.cells #[.string ⟨#[]⟩, .string ⟨#[]⟩, .int .i64 0, .string ⟨#[]⟩, .int .i64 0, .slice none 0 0] 29)).drew := below_drew1 (below_alloc (Below.refl _ _) _)
  have hb2 : Below w.heap.size w w' := ha.trans (hb.mono ha.size)
  have hB2 : Below w0.heap.size w0 w' := hB.trans (hb2.mono hB.size)
  have hz : w'.heap[w.heap.size]? = some (.cells #[.string ⟨#[]⟩, .string ⟨#[]⟩, .int .i64 0, .string ⟨#[]⟩, .int .i64 0, .slice none 0 0] 29 (0, 0)) := (hb.block w.heap.size (by omega)).trans (heap_alloc_new w _)
  have hv : Kd.V k40 40 w' w0.heap.size (fun k => w.heap.size + 1 ≤ k) (.slice ao r6.length co) r6 := Kd.R_V (Kd.R_mono (Kd.R_bound ho) (fun k hk => by have := hk.2.1; omega))
  refine ⟨w.heap.size, ao, co, rfl, rfl, ?_, Nat.le_refl _, Kd.V_mono (Kd.V_step hv (fun k hk _ => by simp only [heap_set k (show k ≠ w.heap.size by omega)])) (fun k hk => by omega), hR.bound.six hb2 (Nat.le_refl _) _ _ _ _ _ _, ((((((hB2.setCell (p := ⟨w.heap.size, 0, none⟩) hB.size (.string r1)).setCell (p := ⟨w.heap.size, 1, none⟩) hB.size (.string r2)).setCell (p := ⟨w.heap.size, 2, none⟩) hB.size (.int .i64 r3)).setCell (p := ⟨w.heap.size, 3, none⟩) hB.size (.string r4)).setCell (p := ⟨w.heap.size, 4, none⟩) hB.size (.int .i64 r5)).setCell (p := ⟨w.heap.size, 5, none⟩) hB.size (.slice ao r6.length co))⟩
  exact blk_put (cs := #[.string r1, .string r2, .int .i64 r3, .string r4, .int .i64 r5, .slice none 0 0]) (blk_put (cs := #[.string r1, .string r2, .int .i64 r3, .string r4, .int .i64 0, .slice none 0 0]) (blk_put (cs := #[.string r1, .string r2, .int .i64 r3, .string ⟨#[]⟩, .int .i64 0, .slice none 0 0]) (blk_put (cs := #[.string r1, .string r2, .int .i64 0, .string ⟨#[]⟩, .int .i64 0, .slice none 0 0]) (blk_put (cs := #[.string r1, .string ⟨#[]⟩, .int .i64 0, .string ⟨#[]⟩, .int .i64 0, .slice none 0 0]) (blk_put (cs := #[.string ⟨#[]⟩, .string ⟨#[]⟩, .int .i64 0, .string ⟨#[]⟩, .int .i64 0, .slice none 0 0]) hz 0 (.string r1) rfl) 1 (.string r2) rfl) 2 (.int .i64 r3) rfl) 3 (.string r4) rfl) 4 (.int .i64 r5) rfl) 5 (.slice ao r6.length co) rfl
end
theorem below_now {B b : Nat} {w0 w : World} (h : Below B w0 w) (hb : B ≤ b) (m t : ByteArray) (sc : Int) (rs : ByteArray) (mi : Int) (u : Value) : Below B w0 (((((((w.setCell ⟨b, 2, none⟩ (.string eB)).setCell ⟨b, 10, none⟩ (.string m)).setCell ⟨b, 11, none⟩ (.string t)).setCell ⟨b, 12, none⟩ (.int .i64 sc)).setCell ⟨b, 13, none⟩ (.string rs)).setCell ⟨b, 14, none⟩ (.int .i64 mi)).setCell ⟨b, 15, none⟩ (u)) := (((((((h.setCell (p := ⟨b, 2, none⟩) hb (.string eB)).setCell (p := ⟨b, 10, none⟩) hb (.string m)).setCell (p := ⟨b, 11, none⟩) hb (.string t)).setCell (p := ⟨b, 12, none⟩) hb (.int .i64 sc)).setCell (p := ⟨b, 13, none⟩) hb (.string rs)).setCell (p := ⟨b, 14, none⟩) hb (.int .i64 mi)).setCell (p := ⟨b, 15, none⟩) hb (u))
structure FrRel2 (w0 : World) (L b g : Nat) (ao : Option Addr) (co : Nat) (ok : Nat → Prop) (x : Rd) (out : List S49) (r1 r2 : ByteArray) (r3 : Int) (r4 : ByteArray) (r5 : Int) (r6 : List S40) (f1 f2 : Int) (wc : World) : Prop where
  g : wc.heap[g]? = some (.cells #[.string r1, .string r2, .int .i64 r3, .string r4, .int .i64 r5, .slice ao r6.length co] 29 (0, 0))
  v : Kd.V k40 40 wc w0.heap.size (fun k => L ≤ k) (.slice ao r6.length co) r6
  r : RdAt w0.heap.size b (fun k => ok k ∧ k < L) { x with kind := f1, size := f2 } out wc
  b : Below w0.heap.size w0 wc
theorem FrRel2.mk' {w0 wc w4 : World} {L b g : Nat} {ao : Option Addr} {co : Nat} {ok : Nat → Prop} {x : Rd} {out : List S49} {r1 r2 : ByteArray} {r3 : Int} {r4 : ByteArray} {r5 : Int} {r6 : List S40}
    (hg : wc.heap[g]? = some (.cells #[.string r1, .string r2, .int .i64 r3, .string r4, .int .i64 r5, .slice ao r6.length co] 29 (0, 0))) (hL : L ≤ g) (hbL : b < L)
    (hv : Kd.V k40 40 wc w0.heap.size (fun k => L ≤ k) (.slice ao r6.length co) r6) (hr : RdAt w0.heap.size b (fun k => ok k ∧ k < L) x out wc) (hb : Below w0.heap.size w0 wc) (hw : Below wc.heap.size wc w4) (f1 f2 : Int) :
    FrRel2 w0 L b g ao co ok x out r1 r2 r3 r4 r5 r6 f1 f2 ((w4.setCell ⟨b, 3, none⟩ (.int .i64 f1)).setCell ⟨b, 4, none⟩ (.int .i64 f2)) := by
  have hne : g ≠ b := by omega
  have h4 := hr.below hw
  refine ⟨?_, Kd.V_far (Kd.V_far (Kd.V_below hv hw) (fun k hk => by show k ≠ b; omega) _) (fun k hk => by show k ≠ b; omega) _, h4.frame f1 f2, (((hb.trans (hw.mono hb.size)).setCell (p := ⟨b, 3, none⟩) h4.1 _).setCell (p := ⟨b, 4, none⟩) h4.1 _)⟩
  rw [heap_set g hne, heap_set g hne]
  exact blk_below hg hw
theorem RdAt.lt4 {B b : Nat} {ok : Nat → Prop} {x : Rd} {out : List S49} {w : World} (h : RdAt B b ok x out w) : w.cell? ⟨b, 3, none⟩ = some (.int .i64 x.kind) ∧ w.cell? ⟨b, 4, none⟩ = some (.int .i64 x.size) ∧ w.frozen? ⟨b, 3, none⟩ = false ∧ w.frozen? ⟨b, 4, none⟩ = false := by
  obtain ⟨h0, u, v, h1, h2, h3⟩ := h
  exact ⟨(blk_cell h1 3).trans rfl, (blk_cell h1 4).trans rfl, blk_frozen h1 3, blk_frozen h1 4⟩
set_option maxHeartbeats 3200000 in
set_option maxRecDepth 100000 in
theorem framed_any (k b : Nat) (ok : Nat → Prop) (x y : Rd) (out : List S49) (w0 w : World) (h : RdAt w0.heap.size b ok x out w) (hok : ∀ k, w0.heap.size ≤ k → ok k) (hB : Below w0.heap.size w0 w) (hG : H.GlobOk w0) (hs : x.head.size ≤ 9223372036854775807) (hf : framedO k x = some y) :
    Calls Tryz.prog 86 #[.pointer (some ⟨b, 0, none⟩)] w fun e w' => e = .returned (.tuple #[]) ∧ RdAt w0.heap.size b ok y out w' ∧ Below w0.heap.size w0 w' := by
  unfold framedO at hf
  obtain ⟨⟨r1, r2, r3, r4, r5, r6, e0⟩, hp, hf⟩ := Option.bind_eq_some_iff.1 hf
  dsimp only at hf
  have HR := Lib.hid h
  have HB := Aside0.mk hB
  have HG := Lib.hid hG
  have HF := Lib.hid hp
  have HY := Lib.hid hf
  have HOK := Lib.hid hok
  obtain ⟨A, c, v, hv, H1, H2, H3⟩ := h.cells
  obtain ⟨c0, -, c2, -⟩ := cz18 H1.out
  have hlt : b < w.heap.size := World.block_lt_of_cell? w _ c0
  have HL0 := Lib.hid hB.size
  have HLT := Lib.hid hlt
  clear h hB hG hf hp hok H1 H2 H3 hv
  go_enter Tryz.func86, Tryz.ntmps86
  go_upto_region 0 with (fail)
  go_cut [2, 3] (fun v2 v3 wc => Aside0 (FrRel w0 w.heap.size b ok x out r1 r2 r3 r4 r5 r6 e0 v2 v3 wc))
  case first =>
   go_region_with (first
      | (go_at_call 111; refine (Tryz.strings_TrimSuffix _ _ _ hs).mono ?_; rintro e w' ⟨rfl, rfl⟩)
      | (go_at_call 110; refine (head_Parse.calls k _ _ _ _ _ _ _ _ _ _ (glob_below HG.out zB) HF.out).mono ?_; rintro e w' ⟨v5, rfl, ho, hb⟩; obtain ⟨ao, co, rfl⟩ := Kd.R_slice ho; have HO := Lib.hid ho; have HBb := Lib.hid hb; obtain ⟨hcc, hcf⟩ := bcell hb; clear ho hb))
   all_goals
     go_wp2_with fail
     go_meet
     case rel => first | (with_reducible exact ⟨FrRel.late HR.out HB.out HO.out HBb.out⟩) | (with_reducible exact ⟨FrRel.early HR.out HB.out HO.out HBb.out⟩)
  case rest =>
    obtain ⟨g, ao, co, rfl, rfl, hg, hLg, hV, hR, hB⟩ := hcut.out
    have HGC := Lib.hid hg
    have HLG := Lib.hid hLg
    have HV := Lib.hid hV
    have HR2 := Lib.hid hR
    have HB2 := Lib.hid hB
    have HR1 := Lib.hid (hR.mono (fun k hk => hk.1))
    have hy := HY.out
    clear hcut hg hLg hV hR hB HR HB HF HY c0 c2 hlt hs
    by_cases he : e0 = 0
    · rw [if_pos he] at hy
      obtain ⟨⟨f1, f2, f3⟩, hF, hy⟩ := Option.bind_eq_some_iff.1 hy
      dsimp only at hy
      have HY := Lib.hid hy
      have HFr := Lib.hid hF
      have d0 : (e0 != 0) = false := bne_eq_false_iff_eq.mpr he
      obtain ⟨A2, k2, v2, hv2, H1, H2, H3⟩ := HR1.out.cells
      have c0 : wc.cell? ⟨b, 0, none⟩ = some (.bool x.ans) := (blk_cell H1.out 0).trans rfl
      have c1 : wc.cell? ⟨b, 1, none⟩ = some (.string x.asked) := (blk_cell H1.out 1).trans rfl
      obtain ⟨g0, g1, g2, g3, g4, g5, -⟩ := cz6 HGC.out
      have HKC := Lib.hid (Kd.V_reads' HV.out)
      clear H1 H2 H3 hv2 hF hy he
      go_upto_if 28 with (fail)
      go_cut [3] (fun v3 wd => v3 = .int .i64 f3 ∧ Aside0 (FrRel2 w0 w.heap.size b g ao co ok x out r1 r2 r3 r4 r5 r6 f1 f2 wd))
      case first =>
        have hF := HFr.out
        unfold frO at hF
        cases hans : x.ans with
        | true =>
          rw [hans] at hF c0
          rw [if_pos rfl] at hF
          have HF4 := Lib.hid hF
          clear hF hans
          go_wp2_with fail
          go_region_with ((go_at_call 112; refine (frame_Answer.calls k _ _ _ _ _ _ _ _ _ _ _ _ _ (by first | exact HKC.out.2.2 | exact Kd.C_below HKC.out.2.2 (below_drew (Below.refl _ _))) HKC.out.2.1 HF4.out).mono ?_; rintro e w4 ⟨rfl, hb⟩; have HW4 : Hid (Below wc.heap.size wc w4) := Lib.hid (by first | exact hb | exact (below_drew (Below.refl _ _)).trans (hb.mono (below_drew (Below.refl wc.heap.size wc)).size)); have HR4 := Lib.hid (HR2.out.below HW4.out); clear hb; obtain ⟨c3, c4, z3, z4⟩ := HR4.out.lt4))
          all_goals
            go_wp2_with fail
            go_meet
            case rel => exact ⟨rfl, ⟨FrRel2.mk' HGC.out HLG.out HLT.out HV.out HR2.out HB2.out HW4.out f1 f2⟩⟩
        | false =>
          rw [hans] at hF c0
          rw [if_neg (by decide)] at hF
          have HF4 := Lib.hid hF
          clear hF hans
          go_wp2_with ((go_at_call 113; refine (frame_Request.calls k _ _ _ _ _ _ _ _ _ _ _ _ (by first | exact HKC.out.2.2 | exact Kd.C_below HKC.out.2.2 (below_drew (Below.refl _ _))) HKC.out.2.1 HF4.out).mono ?_; rintro e w4 ⟨rfl, hb⟩; have HW4 : Hid (Below wc.heap.size wc w4) := Lib.hid (by first | exact hb | exact (below_drew (Below.refl _ _)).trans (hb.mono (below_drew (Below.refl wc.heap.size wc)).size)); have HR4 := Lib.hid (HR2.out.below HW4.out); clear hb; obtain ⟨c3, c4, z3, z4⟩ := HR4.out.lt4))
          go_meet
          case rel => exact ⟨rfl, ⟨FrRel2.mk' HGC.out HLG.out HLT.out HV.out HR2.out HB2.out HW4.out f1 f2⟩⟩
      case rest =>
        obtain ⟨rfl, HX⟩ := hcut
        clear HGC HV HR2 HB2 HR1 c0 c1 g0 g1 g2 g3 g4 g5 HKC HFr
        have hy := HY.out
        by_cases h3 : f3 = 0
        · rw [if_pos h3] at hy
          have EY : Hid (y = x.put r1 r2 r3 r4 r5 r6 f1 f2) := Lib.hid (Option.some.inj hy).symm
          have d3 : (f3 != 0) = false := bne_eq_false_iff_eq.mpr h3
          obtain ⟨A2, k2, v2, hv2, H1, H2, H3⟩ := HX.out.r.cells
          obtain ⟨-, -, c2, -, -, -, -, -, -, -, c10, c11, c12, c13, c14, c15, -, -, -, -, z2, -, -, -, -, -, -, -, z10, z11, z12, z13, z14, z15, -, -⟩ := cz18 H1.out
          obtain ⟨g0, g1, g2, g3, g4, g5, -⟩ := cz6 HX.out.g
          have hgb : ¬ g = b := by have := HLT.out; have := HLG.out; omega
          have hbg : ¬ b = g := fun h => hgb h.symm
          clear H1 H2 H3 hv2 hy h3 HY
          go_wp2_with fail
          go_region
          all_goals
            go_end0
            refine ⟨rfl, ?_, ?_⟩
            · rw [EY.out]
              exact (HX.out.r.now HLT.out (fun k hk => HOK.out k (Nat.le_trans HL0.out hk)) r1 r2 r3 r4 r5 r6 HX.out.v).below (below_drew (Below.refl _ _))
            · exact below_drew1 (below_now HX.out.b HX.out.r.1 r1 r2 r3 r4 r5 _)
        · rw [if_neg h3] at hy
          have EY : Hid (y = x.fail f3) := Lib.hid (Option.some.inj hy).symm
          have d3 : (f3 != 0) = true := bne_iff_ne.mpr h3
          have HRx := Lib.hid (HX.out.r.mono (fun k hk => hk.1))
          have HBx := Lib.hid HX.out.b
          clear hy h3 HY HX
          go_wp2_with ((go_at_call 87; refine (fail_any b ok _ out f3 w0 _ HRx.out HBx.out).mono ?_; rintro e w5 ⟨rfl, hr, hb⟩; have HR5 := Lib.hid hr; have HB5 := Lib.hid hb; clear hr hb))
          refine bodyPost_ret (results_none rfl _ _ _) rfl ?_
          exact ⟨rfl, by rw [EY.out]; exact HR5.out, HB5.out⟩
    · rw [if_neg he] at hy
      have EY : Hid (y = x.fail e0) := Lib.hid (Option.some.inj hy).symm
      have d0 : (e0 != 0) = true := bne_iff_ne.mpr he
      clear hy he
      go_wp2_with ((go_at_call 87; refine (fail_any b ok x out e0 w0 _ HR1.out HB2.out).mono ?_; rintro e w5 ⟨rfl, hr, hb⟩; have HR5 := Lib.hid hr; have HB5 := Lib.hid hb; clear hr hb))
      refine bodyPost_ret (results_none rfl _ _ _) rfl ?_
      exact ⟨rfl, by rw [EY.out]; exact HR5.out, HB5.out⟩
end Go.Proofs.YtapeodbgobkjeaaGreatDoor.P
