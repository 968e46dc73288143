/- Several parts together: How far chunks are read, in a block of a call's own: state, left, line, many, and the body in a row that it owns; The contracts of the lines of chunks: what a line that tells a size, a line behind a chunk, and a line of the trailer do to a decoder; The contract of chunk.lines: the table of what lines do; The contracts of what a decoder does at a byte of a line, and with bytes of a chunk; The contract of what a decoder does with bytes of a chunk; The contract of chunk.Feed in the form of the printed ones. -/
import Derived.Test.YtapeodbgobkjeaaGreatDoorHZB
import Derived.Lib.Builder
import Derived.Lib.AppendStr
import Derived.Test.YtapeodbgobkjeaaGreatDoorPx5
import Derived.Test.YtapeodbgobkjeaaGreatDoorPx7
import Derived.Carry
import Derived.MapKept
import Derived.Deep.RegionHeld3
import Derived.Deep.RegionWith
import Derived.Deep.QuietTactic
import Derived.BigQuiet
import Derived.Lib.SlBytesRow
import Derived.Deep.RegionLaw
import Derived.Laws.IdiomStrings
import Derived.Test.YtapeodbgobkjeaaGreatDoorPx10
import Derived.Lib.BufferRead
set_option linter.unusedVariables false
set_option linter.unusedSimpArgs false
namespace Go.Proofs.YtapeodbgobkjeaaGreatDoor.H
open Go.RowKit Go.Shelf Go Go.Lib
def DecAt (B b : Nat) (st left : Int) (line : ByteArray) (many : Int) (body : ByteArray) (w : World) : Prop :=
 B ≤ b ∧ ∃ v, w.heap[b]? = some (.cells #[.int .i64 st, .int .i64 left, .string line, .int .i64 many, v] 138 (0, 0)) ∧ w.ownsRow B 5 1 v body.size (strCells body) ∧ v.ownBlock ≠ some b
theorem DecAt.below {B b : Nat} {st left : Int} {line : ByteArray} {many : Int} {body : ByteArray} {w w' : World} (h : DecAt B b st left line many body w) (hb : Below w.heap.size w w') : DecAt B b st left line many body w' := by
 obtain ⟨hB, v, hk, hown, hne⟩ := h
 have hlt : b < w.heap.size := by
  rcases Nat.lt_or_ge b w.heap.size with h' | h'
  ·exact h'
  ·simp [Array.getElem?_eq_none h'] at hk
 refine ⟨hB, v, (hb.block b hlt).trans hk, ?_, hne⟩
 refine hown.kept (row := none) ⟨hb.os, hb.tape, hb.output, hb.size, fun k hk _ => hb.block k hk⟩ ?_
 cases e : v.ownBlock with
 | none => exact .inl rfl
 | some g => exact .inr (by simp)
theorem DecAt.lt {B b : Nat} {st left : Int} {line : ByteArray} {many : Int} {body : ByteArray} {w : World} (h : DecAt B b st left line many body w) : b < w.heap.size := by
 obtain ⟨hB, v, hk, hown, hne⟩ := h
 rcases Nat.lt_or_ge b w.heap.size with h' | h'
 ·exact h'
 ·simp [Array.getElem?_eq_none h'] at hk
theorem DecAt.kept {B b : Nat} {st left st' left' : Int} {line line' : ByteArray} {many many' : Int} {body : ByteArray} {v x : Value} {i : Nat} {w : World} (hB : B ≤ b) (hk : w.heap[b]? = some (.cells #[.int .i64 st, .int .i64 left, .string line, .int .i64 many, v] 138 (0, 0)))
  (hown : w.ownsRow B 5 1 v body.size (strCells body)) (hne : v.ownBlock ≠ some b)
  (he : (#[.int .i64 st, .int .i64 left, .string line, .int .i64 many, v] : Array Value).setIfInBounds i x = #[.int .i64 st', .int .i64 left', .string line', .int .i64 many', v]) :
  DecAt B b st' left' line' many' body (w.setCell ⟨b, i, none⟩ x) := by
 refine ⟨hB, v, ?_, ?_, hne⟩
 ·rw [← he]
  simp [World.setCell, Array.getElem?_modify, hk]
 ·exact hown.kept (row := some b) ⟨rfl, rfl, rfl, by simp [World.setCell], fun k _ hk => Below.heap_setCell _ _ _ _ (fun e => hk (by simp [e]))⟩ (Or.inr hne)
theorem DecAt.set0 {B b : Nat} {st left : Int} {line : ByteArray} {many : Int} {body : ByteArray} {w : World} (h : DecAt B b st left line many body w) (x : Int) : DecAt B b x left line many body (w.setCell ⟨b, 0, none⟩ (.int .i64 x)) := by
 obtain ⟨hB, v, hk, hown, hne⟩ := h
 exact DecAt.kept hB hk hown hne rfl
theorem DecAt.set1 {B b : Nat} {st left : Int} {line : ByteArray} {many : Int} {body : ByteArray} {w : World} (h : DecAt B b st left line many body w) (x : Int) : DecAt B b st x line many body (w.setCell ⟨b, 1, none⟩ (.int .i64 x)) := by
 obtain ⟨hB, v, hk, hown, hne⟩ := h
 exact DecAt.kept hB hk hown hne rfl
theorem DecAt.set2 {B b : Nat} {st left : Int} {line : ByteArray} {many : Int} {body : ByteArray} {w : World} (h : DecAt B b st left line many body w) (x : ByteArray) : DecAt B b st left x many body (w.setCell ⟨b, 2, none⟩ (.string x)) := by
 obtain ⟨hB, v, hk, hown, hne⟩ := h
 exact DecAt.kept hB hk hown hne rfl
theorem DecAt.set3 {B b : Nat} {st left : Int} {line : ByteArray} {many : Int} {body : ByteArray} {w : World} (h : DecAt B b st left line many body w) (x : Int) : DecAt B b st left line x body (w.setCell ⟨b, 3, none⟩ (.int .i64 x)) := by
 obtain ⟨hB, v, hk, hown, hne⟩ := h
 exact DecAt.kept hB hk hown hne rfl
theorem DecAt.cells {B b : Nat} {st left : Int} {line : ByteArray} {many : Int} {body : ByteArray} {w : World} (h : DecAt B b st left line many body w) :
  w.cell? ⟨b, 0, none⟩ = some (.int .i64 st) ∧ w.cell? ⟨b, 1, none⟩ = some (.int .i64 left) ∧ w.cell? ⟨b, 2, none⟩ = some (.string line) ∧ w.cell? ⟨b, 3, none⟩ = some (.int .i64 many) ∧ ∀ i, w.frozen? ⟨b, i, none⟩ = false := by
 obtain ⟨hB, v, hk, hown, hne⟩ := h
 exact ⟨by rw [Go.Lib.cell_of_heap hk]; rfl, by rw [Go.Lib.cell_of_heap hk]; rfl, by rw [Go.Lib.cell_of_heap hk]; rfl, by rw [Go.Lib.cell_of_heap hk]; rfl, fun i => Go.Lib.frozen_of_heap hk i⟩
end Go.Proofs.YtapeodbgobkjeaaGreatDoor.H
namespace Go.Proofs.YtapeodbgobkjeaaGreatDoor.P
open Go.RowKit Go.Shelf Go.Lib Go.Proofs.YtapeodbgobkjeaaGreatDoorW.PrintWords Go.Proofs.YtapeodbgobkjeaaGreatDoorW.PrintLast Go.Proofs.YtapeodbgobkjeaaGreatDoorW.PrintMore
open H (DecAt)
theorem chunk_gap_yes (B b : Nat) (st left : Int) (line : ByteArray) (many : Int) (body : ByteArray) (w : World) (h : DecAt B b st left line many body w) :
  Calls Tryz.prog 165 #[.pointer (some ⟨b, 0, none⟩), .string ⟨#[]⟩] w fun e w' => e = .returned (.int .i64 0) ∧ DecAt B b 0 left line many body w' ∧ Below B w w' := by
 obtain ⟨c0, c1, c2, c3, fz⟩ := h.cells
 have f0 := fz 0
 have H1 := Lib.hid (h.set0 0)
 have HB := Lib.hid ((Below.refl B w).setCell (p := ⟨b, 0, none⟩) h.1 (.int .i64 0))
 clear h fz
 go_enter Tryz.func165, Tryz.ntmps165
 go_wp2_with fail
 go_ret
 exact ⟨rfl, H1.out, HB.out⟩
theorem chunk_gap_no (b : Nat) (s : ByteArray) (hs : s.toList ≠ []) (w : World) :
  Calls Tryz.prog 165 #[.pointer (some ⟨b, 0, none⟩), .string s] w fun e w' => e = .returned (.int .i64 23) ∧ w' = w := by
 have c0 : (s.toList == ([] : List UInt8)) = false := beq_eq_false_iff_ne.mpr hs
 have c1 : (s.toList != ([] : List UInt8)) = true := bne_iff_ne.mpr hs
 clear hs
 go_enter Tryz.func165, Tryz.ntmps165
 go_wp2_with fail
 go_ret
 exact ⟨rfl, rfl⟩
theorem chunk_field_end (B b : Nat) (st left : Int) (line : ByteArray) (many : Int) (body : ByteArray) (w : World) (h : DecAt B b st left line many body w) :
  Calls Tryz.prog 166 #[.pointer (some ⟨b, 0, none⟩), .string ⟨#[]⟩] w fun e w' => e = .returned (.int .i64 0) ∧ DecAt B b 4 left line many body w' ∧ Below B w w' := by
 obtain ⟨c0, c1, c2, c3, fz⟩ := h.cells
 have f0 := fz 0
 have H1 := Lib.hid (h.set0 4)
 have HB := Lib.hid ((Below.refl B w).setCell (p := ⟨b, 0, none⟩) h.1 (.int .i64 4))
 clear h fz
 go_enter Tryz.func166, Tryz.ntmps166
 go_wp2_with fail
 go_ret
 exact ⟨rfl, H1.out, HB.out⟩
theorem chunk_field_one (k B b : Nat) (st left : Int) (line : ByteArray) (many : Int) (body : ByteArray) (s n v : ByteArray) (e0 : Int) (hs : s.toList ≠ []) (w : World) (h : DecAt B b st left line many body w) (hB : B ≤ w.heap.size) (hp : field_Parse.f k s = some (n, v, e0)) :
  Calls Tryz.prog 166 #[.pointer (some ⟨b, 0, none⟩), .string s] w fun e w' => e = .returned (.int .i64 (if e0 = 0 then 0 else 23)) ∧ DecAt B b st left line many body w' ∧ Below B w w' := by
 have c0 : (s.toList == ([] : List UInt8)) = false := beq_eq_false_iff_ne.mpr hs
 have c1 : (s.toList != ([] : List UInt8)) = true := bne_iff_ne.mpr hs
 have HD := Lib.hid h
 have HP := Lib.hid hp
 have HB := Lib.hid hB
 clear hs h hp hB
 by_cases he : e0 = 0
 ·subst he
  rw [if_pos rfl]
  go_enter Tryz.func166, Tryz.ntmps166
  go_wp2_with fail
  refine (field_Parse.calls k s n v 0 _ HP.out).mono ?_; rintro e w1 ⟨rfl, hb⟩
  have H1 := Lib.hid (HD.out.below hb)
  have HB1 := Lib.hid (hb.mono HB.out)
  have HS := Lib.hid hb.size
  clear hb
  go_wp2_with fail
  go_ret
  refine ⟨rfl, ?_, ?_⟩
  ·exact H1.out.below (below_alloc (Below.refl _ _) _)
  ·exact HB1.out.alloc (Nat.le_trans HB.out HS.out) _
 ·rw [if_neg he]
  have d : (e0 != 0) = true := bne_iff_ne.mpr he
  clear he
  go_enter Tryz.func166, Tryz.ntmps166
  go_wp2_with fail
  refine (field_Parse.calls k s n v e0 _ HP.out).mono ?_; rintro e w1 ⟨rfl, hb⟩
  have H1 := Lib.hid (HD.out.below hb)
  have HB1 := Lib.hid (hb.mono HB.out)
  have HS := Lib.hid hb.size
  clear hb
  go_wp2_with fail
  go_ret
  refine ⟨rfl, ?_, ?_⟩
  ·exact H1.out.below (below_alloc (Below.refl _ _) _)
  ·exact HB1.out.alloc (Nat.le_trans HB.out HS.out) _
def chunk_size.f (k : Nat) (many : Int) (s : ByteArray) : Option (Int × Int) :=
 (strings_Cut.f s ⟨#[59]⟩).bind fun c => (field_Trim.f c.1).bind fun t => (num_Parse.f k t 16).bind fun p =>
  if p.2 = 1 then some (23, 0) else if p.2 = 0 then (if p.1 > 4000 - many then some (2, 0) else some (0, p.1)) else some (2, 0)
theorem chunk_size.mono (many : Int) (s : ByteArray) (k : Nat) : LeO (chunk_size.f k many s) (chunk_size.f (k + 1) many s) := by
 unfold chunk_size.f
 exact .bind (.refl _) fun c => .bind (.refl _) fun t => .bind (num_Parse.mono _ _ _) fun p => .refl _
set_option maxHeartbeats 1600000 in
theorem chunk_size.calls (k B b : Nat) (st left : Int) (line : ByteArray) (many : Int) (body : ByteArray) (s : ByteArray) (e0 n : Int) (w : World) (h : DecAt B b st left line many body w) (hB : B ≤ w.heap.size) (hm : 0 ≤ many ∧ many ≤ 9223372036854775807) (hp : chunk_size.f k many s = some (e0, n)) :
  Calls Tryz.prog 164 #[.pointer (some ⟨b, 0, none⟩), .string s] w fun e w' => e = .returned (.int .i64 e0) ∧ (e0 = 0 → DecAt B b (if n = 0 then 3 else 1) (if n = 0 then left else n) line many body w') ∧ Below B w w' := by
 unfold chunk_size.f at hp
 obtain ⟨⟨x, y, z⟩, h1, hp⟩ := Option.bind_eq_some_iff.1 hp
 obtain ⟨t, h2, hp⟩ := Option.bind_eq_some_iff.1 hp
 obtain ⟨⟨p, q⟩, h3, hp⟩ := Option.bind_eq_some_iff.1 hp
 dsimp only at hp h2
 have hw : wrap64 (4000 - many) = 4000 - many := by unfold wrap64; omega
 have HD := Lib.hid h
 have H1 := Lib.hid h1
 have H2 := Lib.hid h2
 have H3 := Lib.hid h3
 have HB := Lib.hid hB
 clear h h1 h2 h3 hB hm
 split at hp
 case isTrue c =>
  injection hp with hp; injection hp with e1 e2; subst e1 e2
  have d : (q == 1) = true := beq_iff_eq.mpr c
  have hne : ¬ ((23 : Int) = 0) := by decide
  clear c
  go_enter Tryz.func164, Tryz.ntmps164
  go_wp2_with fail
  refine (strings_Cut.calls s _ x y z _ H1.out).mono ?_; rintro e w1 ⟨rfl, hd⟩
  have HB1 := Lib.hid hd.below
  clear hd
  go_wp2_with fail
  refine (field_Trim.calls x t _ H2.out).mono ?_; rintro e w2 ⟨rfl, hd⟩
  have HB2 := Lib.hid (HB1.out.trans (hd.mono HB1.out.size))
  clear hd
  go_wp2_with fail
  refine (num_Parse.calls k t 16 p q _ H3.out).mono ?_; rintro e w3 ⟨rfl, hd⟩
  have HB3 := Lib.hid (HB2.out.trans (hd.below.mono HB2.out.size))
  clear hd
  go_wp2_with fail
  go_ret
  exact ⟨rfl, HB3.out.mono HB.out⟩
 case isFalse c =>
 have d : (q == 1) = false := beq_eq_false_iff_ne.mpr c
 split at hp
 case isFalse c2 =>
  injection hp with hp; injection hp with e1 e2; subst e1 e2
  have d2 : (q != 0) = true := bne_iff_ne.mpr c2
  have hne : ¬ ((2 : Int) = 0) := by decide
  clear c c2
  go_enter Tryz.func164, Tryz.ntmps164
  go_wp2_with fail
  refine (strings_Cut.calls s _ x y z _ H1.out).mono ?_; rintro e w1 ⟨rfl, hd⟩
  have HB1 := Lib.hid hd.below
  clear hd
  go_wp2_with fail
  refine (field_Trim.calls x t _ H2.out).mono ?_; rintro e w2 ⟨rfl, hd⟩
  have HB2 := Lib.hid (HB1.out.trans (hd.mono HB1.out.size))
  clear hd
  go_wp2_with fail
  refine (num_Parse.calls k t 16 p q _ H3.out).mono ?_; rintro e w3 ⟨rfl, hd⟩
  have HB3 := Lib.hid (HB2.out.trans (hd.below.mono HB2.out.size))
  clear hd
  go_wp2_with fail
  go_ret
  exact ⟨rfl, HB3.out.mono HB.out⟩
 case isTrue c2 =>
 have d2 : (q != 0) = false := by rw [c2]; rfl
 have d3 : (q == 0) = true := beq_iff_eq.mpr c2
 clear c c2
 split at hp
 case isTrue c3 =>
  injection hp with hp; injection hp with e1 e2; subst e1 e2
  have d4 : decide (p > 4000 - many) = true := decide_eq_true c3
  have hne : ¬ ((2 : Int) = 0) := by decide
  clear c3
  go_enter Tryz.func164, Tryz.ntmps164
  go_wp2_with fail
  refine (strings_Cut.calls s _ x y z _ H1.out).mono ?_; rintro e w1 ⟨rfl, hd⟩
  have HB1 := Lib.hid hd.below
  clear hd
  go_wp2_with fail
  refine (field_Trim.calls x t _ H2.out).mono ?_; rintro e w2 ⟨rfl, hd⟩
  have HB2 := Lib.hid (HB1.out.trans (hd.mono HB1.out.size))
  clear hd
  go_wp2_with fail
  refine (num_Parse.calls k t 16 p q _ H3.out).mono ?_; rintro e w3 ⟨rfl, hd⟩
  have HB3 := Lib.hid (HB2.out.trans (hd.below.mono HB2.out.size))
  obtain ⟨m0, m1, m2, m3, mf⟩ := (HD.out.below HB3.out).cells
  clear hd mf
  go_wp2_with fail
  go_ret
  exact ⟨rfl, HB3.out.mono HB.out⟩
 case isFalse c3 =>
  injection hp with hp; injection hp with e1 e2; subst e1 e2
  have d4 : decide (p > 4000 - many) = false := decide_eq_false c3
  clear c3
  by_cases c4 : p = 0
  ·have d5 : (p == 0) = true := beq_iff_eq.mpr c4
   rw [if_pos c4, if_pos c4]
   clear c4
   go_enter Tryz.func164, Tryz.ntmps164
   go_wp2_with fail
   refine (strings_Cut.calls s _ x y z _ H1.out).mono ?_; rintro e w1 ⟨rfl, hd⟩
   have HB1 := Lib.hid hd.below
   clear hd
   go_wp2_with fail
   refine (field_Trim.calls x t _ H2.out).mono ?_; rintro e w2 ⟨rfl, hd⟩
   have HB2 := Lib.hid (HB1.out.trans (hd.mono HB1.out.size))
   clear hd
   go_wp2_with fail
   refine (num_Parse.calls k t 16 p q _ H3.out).mono ?_; rintro e w3 ⟨rfl, hd⟩
   have HB3 := Lib.hid (HB2.out.trans (hd.below.mono HB2.out.size))
   obtain ⟨m0, m1, m2, m3, mf⟩ := (HD.out.below HB3.out).cells
   have f0 := mf 0
   clear hd mf
   go_wp2_with fail
   go_ret
   exact ⟨rfl, fun _ => (HD.out.below HB3.out).set0 3, (HB3.out.mono HB.out).setCell (p := ⟨b, 0, none⟩) HD.out.1 _⟩
  ·have d5 : (p == 0) = false := beq_eq_false_iff_ne.mpr c4
   rw [if_neg c4, if_neg c4]
   clear c4
   go_enter Tryz.func164, Tryz.ntmps164
   go_wp2_with fail
   refine (strings_Cut.calls s _ x y z _ H1.out).mono ?_; rintro e w1 ⟨rfl, hd⟩
   have HB1 := Lib.hid hd.below
   clear hd
   go_wp2_with fail
   refine (field_Trim.calls x t _ H2.out).mono ?_; rintro e w2 ⟨rfl, hd⟩
   have HB2 := Lib.hid (HB1.out.trans (hd.mono HB1.out.size))
   clear hd
   go_wp2_with fail
   refine (num_Parse.calls k t 16 p q _ H3.out).mono ?_; rintro e w3 ⟨rfl, hd⟩
   have HB3 := Lib.hid (HB2.out.trans (hd.below.mono HB2.out.size))
   obtain ⟨m0, m1, m2, m3, mf⟩ := (HD.out.below HB3.out).cells
   have f0 := mf 0
   have f1 : (w3.setCell ⟨b, 0, none⟩ (.int .i64 1)).frozen? ⟨b, 1, none⟩ = false := ((HD.out.below HB3.out).set0 1).cells.2.2.2.2 1
   clear hd mf
   go_wp2_with fail
   go_ret
   exact ⟨rfl, fun _ => ((HD.out.below HB3.out).set0 1).set1 p, ((HB3.out.mono HB.out).setCell (p := ⟨b, 0, none⟩) HD.out.1 _).setCell (p := ⟨b, 1, none⟩) HD.out.1 _⟩
end Go.Proofs.YtapeodbgobkjeaaGreatDoor.P
namespace Go.Proofs.YtapeodbgobkjeaaGreatDoor.H
open Go.RowKit Go.Shelf Go Go.MapKept
end Go.Proofs.YtapeodbgobkjeaaGreatDoor.H
namespace Go.Proofs.YtapeodbgobkjeaaGreatDoor.P
open Go.RowKit Go.Shelf Go.Lib Go.Proofs.YtapeodbgobkjeaaGreatDoorW.PrintWords Go.Proofs.YtapeodbgobkjeaaGreatDoorW.PrintLast Go.Proofs.YtapeodbgobkjeaaGreatDoorW.PrintMore
open H (DecAt)
def linesM : Array MapEntry := #[{ key := .int .i64 0, val := .func (.func 164) #[] #[], born := 0 }, { key := .int .i64 2, val := .func (.func 165) #[] #[], born := 1 }, { key := .int .i64 3, val := .func (.func 166) #[] #[], born := 2 }]
set_option maxHeartbeats 400000 in
set_option maxRecDepth 100000 in
theorem lines_any (w : World) :
  Calls Tryz.prog 141 #[] w fun e w' => e = .returned (.map (some w.heap.size)) ∧ w' = w.alloc (.map linesM 3) := by
 have hmm := @run_makeMap Tryz.prog
 have e1 := H.run_put_last Tryz.underlying162 Tryz.underlying3 w #[] 0 (.int .i64 0) (.func (.func 164) #[] #[]) rfl rfl
 have e2 := H.run_put_last Tryz.underlying162 Tryz.underlying3 w #[{ key := .int .i64 0, val := .func (.func 164) #[] #[], born := 0 }] 1 (.int .i64 2) (.func (.func 165) #[] #[]) rfl rfl
 have e3 := H.run_put_last Tryz.underlying162 Tryz.underlying3 w #[{ key := .int .i64 0, val := .func (.func 164) #[] #[], born := 0 }, { key := .int .i64 2, val := .func (.func 165) #[] #[], born := 1 }] 2 (.int .i64 3) (.func (.func 166) #[] #[]) rfl rfl
 simp only [List.push_toArray, List.nil_append, List.cons_append, Nat.zero_add, Nat.reduceAdd] at e1 e2 e3
 go_enter Tryz.func141, Tryz.ntmps141
 go_wp2_with fail
 go_ret
 exact ⟨rfl, rfl⟩
end Go.Proofs.YtapeodbgobkjeaaGreatDoor.P
namespace Go.Proofs.YtapeodbgobkjeaaGreatDoor.P
open Go.RowKit Go.Shelf Go.Lib Go.Proofs.YtapeodbgobkjeaaGreatDoorW.PrintWords Go.Proofs.YtapeodbgobkjeaaGreatDoorW.PrintLast Go.Proofs.YtapeodbgobkjeaaGreatDoorW.PrintMore
open H (DecAt)
def endB (l : ByteArray) : Bool := Lib.hasSuffix l.data.toList [13, 10]
def cutB (l : ByteArray) : ByteArray := ⟨(Lib.trimSuffix l.data.toList [13, 10]).toArray⟩
def byteB (c : UInt8) : ByteArray := ⟨#[c]⟩
theorem run_byte (W : World) (b : Nat) (c : UInt8) (h : W.heap[b]? = some (.cells #[.int .u8 (c.toNat : Int)] 5 (0, 0))) :
  (convert 22 9 (.slice (some ⟨b, 0, none⟩) 1 1)).run Tryz.prog W = .ok (.string (byteB c)) W := by
 refine Lib.run_convert_whole W 22 5 9 Tryz.underlying22 Tryz.underlying5 Tryz.underlying9 b 0 (byteB c) ?_ 1
 intro i hi
 have hi1 : i < 1 := hi
 obtain rfl : i = 0 := by omega
 unfold World.cell?
 rw [h]
 rfl
def chunk_line.f (k : Nat) (st left many : Int) (s : ByteArray) : Option (Int × Int × Int) :=
 if st = 0 then (chunk_size.f k many s).bind fun p => some (p.1, if p.2 = 0 then 3 else 1, if p.2 = 0 then left else p.2)
 else if st = 2 then (if s.toList = [] then some (0, 0, left) else some (23, 2, left))
 else if st = 3 then (if s.toList = [] then some (0, 4, left) else (field_Parse.f k s).bind fun p => some (if p.2.2 = 0 then 0 else 23, 3, left))
 else none
def chunk_one.f (k : Nat) (st left : Int) (line : ByteArray) (many : Int) (c : UInt8) : Option (Int × Int × Int × ByteArray) :=
 if line.size ≤ 1000000 then
  if endB (line ++ byteB c) = true then (chunk_line.f k st left many (cutB (line ++ byteB c))).bind fun p => some (p.1, p.2.1, p.2.2, ⟨#[]⟩)
  else if ((line ++ byteB c).size : Int) > 200 then some (2, st, left, line ++ byteB c) else some (0, st, left, line ++ byteB c)
 else none
theorem chunk_line.mono (st left many : Int) (s : ByteArray) (k : Nat) : LeO (chunk_line.f k st left many s) (chunk_line.f (k + 1) st left many s) := by
 unfold chunk_line.f
 exact .ite (.bind (chunk_size.mono _ _ _) fun p => .refl _) (.ite (.refl _) (.ite (.ite (.refl _) (.bind (field_Parse.mono _ _) fun p => .refl _)) (.refl _)))
theorem chunk_one.mono (st left : Int) (line : ByteArray) (many : Int) (c : UInt8) (k : Nat) : LeO (chunk_one.f k st left line many c) (chunk_one.f (k + 1) st left line many c) := by
 unfold chunk_one.f
 exact .ite (.ite (.bind (chunk_line.mono _ _ _ _ _) fun p => .refl _) (.refl _)) (.refl _)
theorem empty_of {s : ByteArray} (h : s.toList = []) : s = ⟨#[]⟩ := H.ba_ext (by rw [ByteArray.toList_eq] at h; rw [h])
theorem gap_any (B b : Nat) (st left : Int) (line : ByteArray) (many : Int) (body s : ByteArray) (w : World) (h : DecAt B b st left line many body w) :
  Calls Tryz.prog 165 #[.pointer (some ⟨b, 0, none⟩), .string s] w fun e w' => e = .returned (.int .i64 (if s.toList = [] then 0 else 23)) ∧ DecAt B b (if s.toList = [] then 0 else st) left line many body w' ∧ Below B w w' := by
 by_cases hs : s.toList = []
 ·rw [if_pos hs, if_pos hs, empty_of hs]
  exact chunk_gap_yes B b st left line many body w h
 ·rw [if_neg hs, if_neg hs]
  refine (chunk_gap_no b s hs w).mono ?_
  rintro e w' ⟨rfl, rfl⟩
  exact ⟨rfl, h, Below.refl _ _⟩
theorem field_end_any (B b : Nat) (st left : Int) (line : ByteArray) (many : Int) (body s : ByteArray) (hs : s.toList = []) (w : World) (h : DecAt B b st left line many body w) :
  Calls Tryz.prog 166 #[.pointer (some ⟨b, 0, none⟩), .string s] w fun e w' => e = .returned (.int .i64 0) ∧ DecAt B b 4 left line many body w' ∧ Below B w w' := by
 rw [empty_of hs]
 exact chunk_field_end B b st left line many body w h
theorem line_calls (k B b : Nat) (st left : Int) (line : ByteArray) (many : Int) (body s : ByteArray) (p1 p2 p3 : Int) (hm : 0 ≤ many ∧ many ≤ 9223372036854775807) (h : chunk_line.f k st left many s = some (p1, p2, p3)) :
  (st = 0 ∧ (∀ W, DecAt B b st left line many body W → B ≤ W.heap.size → Calls Tryz.prog 164 #[.pointer (some ⟨b, 0, none⟩), .string s] W fun e w' => e = .returned (.int .i64 p1) ∧ (p1 = 0 → DecAt B b p2 p3 line many body w') ∧ Below B W w')) ∨
  (st = 2 ∧ (∀ W, DecAt B b st left line many body W → B ≤ W.heap.size → Calls Tryz.prog 165 #[.pointer (some ⟨b, 0, none⟩), .string s] W fun e w' => e = .returned (.int .i64 p1) ∧ (p1 = 0 → DecAt B b p2 p3 line many body w') ∧ Below B W w')) ∨
  (st = 3 ∧ (∀ W, DecAt B b st left line many body W → B ≤ W.heap.size → Calls Tryz.prog 166 #[.pointer (some ⟨b, 0, none⟩), .string s] W fun e w' => e = .returned (.int .i64 p1) ∧ (p1 = 0 → DecAt B b p2 p3 line many body w') ∧ Below B W w')) := by
 unfold chunk_line.f at h
 split at h
 case isTrue hs0 =>
  obtain ⟨⟨e0, n0⟩, hz, h3⟩ := Option.bind_eq_some_iff.1 h
  simp only [Option.some.injEq, Prod.mk.injEq] at h3
  obtain ⟨rfl, rfl, rfl⟩ := h3
  exact .inl ⟨hs0, fun W hd hb => chunk_size.calls k B b st left line many body s _ _ W hd hb hm hz⟩
 case isFalse hs0 =>
 split at h
 case isTrue hs0 =>
  refine .inr (.inl ⟨hs0, fun W hd hb => ?_⟩)
  refine (gap_any B b st left line many body s W hd).mono ?_
  rintro e w' ⟨rfl, h1, h2⟩
  split at h
  case isTrue hs => simp only [Option.some.injEq, Prod.mk.injEq] at h; obtain ⟨rfl, rfl, rfl⟩ := h; rw [if_pos hs] at h1 ⊢; exact ⟨rfl, fun _ => h1, h2⟩
  case isFalse hs => simp only [Option.some.injEq, Prod.mk.injEq] at h; obtain ⟨rfl, rfl, rfl⟩ := h; rw [if_neg hs] at h1 ⊢; exact ⟨rfl, fun e => absurd e (by decide), h2⟩
 case isFalse hs1 =>
 split at h
 case isTrue hs0 =>
  refine .inr (.inr ⟨hs0, fun W hd hb => ?_⟩)
  split at h
  case isTrue hs =>
   simp only [Option.some.injEq, Prod.mk.injEq] at h; obtain ⟨rfl, rfl, rfl⟩ := h
   refine (field_end_any B b st left line many body s hs W hd).mono ?_
   rintro e w' ⟨rfl, h1, h2⟩
   exact ⟨rfl, fun _ => h1, h2⟩
  case isFalse hs =>
   obtain ⟨⟨n, v, e0⟩, hz, h3⟩ := Option.bind_eq_some_iff.1 h
   simp only [Option.some.injEq, Prod.mk.injEq] at h3
   obtain ⟨rfl, rfl, rfl⟩ := h3
   refine (chunk_field_one k B b st left line many body s n v e0 hs W hd hb hz).mono ?_
   rintro e w' ⟨rfl, h1, h2⟩
   exact ⟨rfl, fun _ => by rw [← hs0]; exact h1, h2⟩
 case isFalse hs2 => cases h
theorem cut_any (L : ByteArray) (W : World) (h : L.size ≤ 9223372036854775807) :
  Calls Tryz.prog 140 #[.string L, .string ⟨#[13, 10]⟩] W fun e w' => e = .returned (.tuple #[.string (cutB L), .bool (endB L)]) ∧ w' = W := Tryz.strings_CutSuffix L ⟨#[13, 10]⟩ W h
set_option maxHeartbeats 3200000 in
set_option maxRecDepth 100000 in
theorem chunk_one.calls (k B b : Nat) (st left : Int) (line : ByteArray) (many : Int) (body : ByteArray) (c : UInt8) (e0 st' left' : Int) (line' : ByteArray) (w : World) (h : DecAt B b st left line many body w) (hB : B ≤ w.heap.size) (hm : 0 ≤ many ∧ many ≤ 9223372036854775807) (hp : chunk_one.f k st left line many c = some (e0, st', left', line')) :
  Calls Tryz.prog 115 #[.pointer (some ⟨b, 0, none⟩), .int .u8 (c.toNat : Int)] w fun e w' => e = .returned (.int .i64 e0) ∧ (e0 = 0 → DecAt B b st' left' line' many body w') ∧ Below B w w' := by
 unfold chunk_one.f at hp
 split at hp
 case isFalse => cases hp
 case isTrue hl =>
 have hbW : Below w.heap.size w ((w.alloc (.cells #[.int .u8 (c.toNat : Int)] 5)).drew) := (below_alloc (Below.refl _ _) _).drew
 have hD1 := h.below hbW
 obtain ⟨d0, d1, d2, d3, gz⟩ := hD1.cells
 have c2 := h.cells.2.2.1
 have g2 := gz 2
 have hone : (byteB c).size = 1 := rfl
 have hsum : line.size + (byteB c).size ≤ 9223372036854775807 := by omega
 have hsz : (line ++ byteB c).size ≤ 9223372036854775807 := by rw [ByteArray.size_append]; omega
 have HSZ := Lib.hid hsz
 have HD := Lib.hid (hD1.set2 (line ++ byteB c))
 have HB := Lib.hid hB
 have HBW := Lib.hid ((hbW.mono hB).setCell (p := ⟨b, 2, none⟩) h.1 (.string (line ++ byteB c)))
 have HP := Lib.hid hp
 have HM := Lib.hid hm
 have hcv := run_byte ((w.alloc (.cells #[.int .u8 (c.toNat : Int)] 5)).drew) w.heap.size c (heap_alloc_new w _)
 clear h hB gz hbW hD1 hp hm hl hone hsz
 go_enter Tryz.func115, Tryz.ntmps115
 go_wp2_with fail
 go_region
 obtain ⟨W, hW⟩ : ∃ W, W = ((w.alloc (.cells #[.int .u8 (c.toNat : Int)] 5)).setCell ⟨b, 2, none⟩ (.string (line ++ byteB c))).drew := ⟨_, rfl⟩
 rw [← hW]
 replace HD : Hid (DecAt B b st left (line ++ byteB c) many body W) := by rw [hW]; exact HD
 replace HBW : Hid (Below B w W) := by rw [hW]; exact HBW
 obtain ⟨L, hL⟩ : ∃ L, L = line ++ byteB c := ⟨_, rfl⟩
 simp only [← hL] at HD HSZ HP ⊢
 clear hW d0 d1 d2 d3 g2 c2 hcv hL hsum
 obtain ⟨d0, d1, d2, d3, gz⟩ := HD.out.cells
 have g2 := gz 2
 clear gz
 go_wp2_with fail
 refine (cut_any L W HSZ.out).mono ?_; rintro e W1 ⟨rfl, rfl⟩
 cases he : endB L with
 | false =>
  have hp := HP.out
  rw [he, if_neg (by decide)] at hp
  clear HP
  split at hp
  case isTrue h2 =>
   injection hp with hp; simp only [Prod.mk.injEq] at hp; obtain ⟨rfl, rfl, rfl, rfl⟩ := hp
   have q : decide ((L.size : Int) > 200) = true := decide_eq_true h2
   clear h2
   go_wp2_with fail
   go_ret
   exact ⟨rfl, fun e => absurd e (by decide), HBW.out⟩
  case isFalse h2 =>
   injection hp with hp; simp only [Prod.mk.injEq] at hp; obtain ⟨rfl, rfl, rfl, rfl⟩ := hp
   have q : decide ((L.size : Int) > 200) = false := decide_eq_false h2
   clear h2
   go_wp2_with fail
   go_ret
   exact ⟨rfl, HD.out, HBW.out⟩
 | true =>
  have hp := HP.out
  rw [he, if_pos rfl] at hp
  clear HP
  obtain ⟨⟨p1, p2, p3⟩, h1, h2⟩ := Option.bind_eq_some_iff.1 hp
  simp only [Option.some.injEq, Prod.mk.injEq] at h2
  obtain ⟨rfl, rfl, rfl, rfl⟩ := h2
  have HL := Lib.hid h1
  clear hp h1
  have HD2 := Lib.hid (HD.out.set2 ⟨#[]⟩)
  have HB2 := Lib.hid (HBW.out.setCell (p := ⟨b, 2, none⟩) HD.out.1 (.string ⟨#[]⟩))
  go_wp2_with fail
  obtain ⟨W2, hW2⟩ : ∃ W2, W2 = W1.setCell ⟨b, 2, none⟩ (.string ⟨#[]⟩) := ⟨_, rfl⟩
  rw [← hW2]
  rw [← hW2] at HD2 HB2
  clear hW2 HD HBW d0 d1 d2 d3 g2
  have hsz2 : w.heap.size ≤ W2.heap.size := HB2.out.size
  have HBs := Lib.hid (Nat.le_trans HB.out hsz2)
  have HDm := Lib.hid (HD2.out.below (below_alloc (Below.refl _ _) (.map linesM 3)))
  obtain ⟨d0, -, -, -, -⟩ := HD2.out.cells
  obtain ⟨m0, -, -, -, -⟩ := HDm.out.cells
  have hlast : (W2.alloc (.map linesM 3)).heap[W2.heap.size]? = some (.map linesM 3) := heap_alloc_new W2 _
  have hlast' : (W2.alloc (.map linesM 3)).drew.heap[W2.heap.size]? = some (.map linesM 3) := hlast
  clear hsz2
  rcases line_calls k B b st left ⟨#[]⟩ many body (cutB L) p1 p2 p3 HM.out HL.out with ⟨rfl, K⟩ | ⟨rfl, K⟩ | ⟨rfl, K⟩
  ·have K1 := Lib.hid K
   have l1 := H.run_look (P := Tryz.prog) Tryz.underlying162 Tryz.underlying3 hlast (.int .i64 0) (.func (.func 164) #[] #[]) 0 rfl rfl
   have l2 := H.run_look (P := Tryz.prog) Tryz.underlying162 Tryz.underlying3 hlast' (.int .i64 0) (.func (.func 164) #[] #[]) 0 rfl rfl
   clear K HL hlast hlast'
   go_region_with (first | (go_at_call 141; refine (lines_any _).mono ?_; rintro e w' ⟨rfl, rfl⟩) | (go_at_call 164; refine (K1.out _ (HDm.out.below (Below.refl _ _).drew) (Nat.le_trans HBs.out (by simp))).mono ?_; rintro e w' ⟨rfl, hd, hb⟩))
   all_goals
    have HD3 := Lib.hid hd
    have HB3 := Lib.hid ((HB2.out.alloc HBs.out (.map linesM 3)).drew.trans hb)
    clear hd hb
    go_wp2_with fail
    go_ret
    exact ⟨rfl, HD3.out, HB3.out⟩
  ·have K1 := Lib.hid K
   have l1 := H.run_look (P := Tryz.prog) Tryz.underlying162 Tryz.underlying3 hlast (.int .i64 2) (.func (.func 165) #[] #[]) 1 rfl rfl
   have l2 := H.run_look (P := Tryz.prog) Tryz.underlying162 Tryz.underlying3 hlast' (.int .i64 2) (.func (.func 165) #[] #[]) 1 rfl rfl
   clear K HL hlast hlast'
   go_region_with (first | (go_at_call 141; refine (lines_any _).mono ?_; rintro e w' ⟨rfl, rfl⟩) | (go_at_call 165; refine (K1.out _ (HDm.out.below (Below.refl _ _).drew) (Nat.le_trans HBs.out (by simp))).mono ?_; rintro e w' ⟨rfl, hd, hb⟩))
   all_goals
    have HD3 := Lib.hid hd
    have HB3 := Lib.hid ((HB2.out.alloc HBs.out (.map linesM 3)).drew.trans hb)
    clear hd hb
    go_wp2_with fail
    go_ret
    exact ⟨rfl, HD3.out, HB3.out⟩
  ·have K1 := Lib.hid K
   have l1 := H.run_look (P := Tryz.prog) Tryz.underlying162 Tryz.underlying3 hlast (.int .i64 3) (.func (.func 166) #[] #[]) 2 rfl rfl
   have l2 := H.run_look (P := Tryz.prog) Tryz.underlying162 Tryz.underlying3 hlast' (.int .i64 3) (.func (.func 166) #[] #[]) 2 rfl rfl
   clear K HL hlast hlast'
   go_region_with (first | (go_at_call 141; refine (lines_any _).mono ?_; rintro e w' ⟨rfl, rfl⟩) | (go_at_call 166; refine (K1.out _ (HDm.out.below (Below.refl _ _).drew) (Nat.le_trans HBs.out (by simp))).mono ?_; rintro e w' ⟨rfl, hd, hb⟩))
   all_goals
    have HD3 := Lib.hid hd
    have HB3 := Lib.hid ((HB2.out.alloc HBs.out (.map linesM 3)).drew.trans hb)
    clear hd hb
    go_wp2_with fail
    go_ret
    exact ⟨rfl, HD3.out, HB3.out⟩
end Go.Proofs.YtapeodbgobkjeaaGreatDoor.P
namespace Go.Proofs.YtapeodbgobkjeaaGreatDoor.H
open Go.RowKit Go.Shelf Go Go.Lib
theorem step_append_str {P : Program} {w : World} {ops : Array Oper} {o : Oper} {a : Act} {K : Act → World → Prop} {Q : Exit → Act → World → Prop} {E : Prop} (hgd : o.guard = none) (sl x : Operand) (t u : TypeId)
  (ho : o.op = .call { callee := .builtin .append, args := #[sl, x], argTypes := #[t, u] })
  (base : Nat) (e : TypeId) (z : Value) (ht : P.underlying t = some (.slice e)) (hu : P.underlying u = some .string) (hinfo : (P.info? e).map (fun i => (i.zero, i.size, i.bytes)) = some (some z, 1, 1)) (hz : z = .int .u8 0)
  (v : Value) (n : Nat) (xs : List Value) (hs : a.eval sl = v) (hown : w.ownsRow base e 1 v n xs) (s : ByteArray) (hx : a.eval x = .string s)
  (hbytes : n + s.size ≤ 140737488355328) (hbase : base ≤ w.heap.size)
  (h : ∀ v' w', w'.ownsRow base e 1 v' (n + s.size) (xs ++ strCells s) → w.grownBy w' v.ownBlock → K (a.put o.dst v') w') : if Region.wanted o (yielded ops a.tmps) = true then Oper.wp P o a w K Q else E := by
 have hw : Region.wanted o (yielded ops a.tmps) = true := by simp [Region.wanted, hgd]
 rw [if_pos hw]
 obtain ⟨i, hi, hz0, hz1, hz2⟩ := info_parts hinfo
 subst hz
 obtain ⟨v', w', hr, h2, h3, _⟩ := run_append_own_string (P := P) w base t u o.type e i ht hu hi hz0 hz1 hz2 v n xs hown s (by unfold maxLen; omega) hbytes hbase
 unfold Oper.wp execOp
 simp only [ho, resolve, invoke, builtin, Sem.run_bind, Sem.run_pure, Result.andThen_ok, List.map_toArray, List.map_cons, List.map_nil, hs, hx, hr]
 exact h v' w' h2 h3
theorem slice_of {w : World} {B : Nat} {e : TypeId} {size n : Nat} {v : Value} {xs : List Value} (h : w.ownsRow B e size v n xs) : ∃ ao n' cap, v = .slice ao n' cap := by
 rcases h.2 with ⟨hv, _⟩ | ⟨g, cap, cur, hv, _⟩
 ·exact ⟨_, _, _, hv⟩
 ·exact ⟨_, _, _, hv⟩
theorem strCells_append (x y : ByteArray) : strCells (x ++ y) = strCells x ++ strCells y := by
 unfold strCells
 rw [ByteArray.data_append, Array.toList_append, List.map_append]
theorem DecAt.put {B b : Nat} {st left : Int} {line : ByteArray} {many : Int} {body x : ByteArray} {v v' : Value} {w : World} (hB : B ≤ b) (hb : w.heap[b]? = some (.cells #[.int .i64 st, .int .i64 left, .string line, .int .i64 many, v] 138 (0, 0)))
  (hown : w.ownsRow B 5 1 v' (body.size + x.size) (strCells body ++ strCells x)) : DecAt B b st left line many (body ++ x) (w.setCell ⟨b, 4, none⟩ v') := by
 have hne := ownBlock_ne hown hb (by decide)
 rw [← strCells_append, ← ByteArray.size_append] at hown
 refine ⟨hB, v', ?_, ?_, hne⟩
 ·simp [World.setCell, Array.getElem?_modify, hb]
 ·exact hown.kept (row := some b) ⟨rfl, rfl, rfl, by simp [World.setCell], fun k _ hk => Below.heap_setCell _ _ _ _ (fun e => hk (by simp [e]))⟩ (Or.inr hne)
end Go.Proofs.YtapeodbgobkjeaaGreatDoor.H
namespace Go.Proofs.YtapeodbgobkjeaaGreatDoor.P
open Go.RowKit Go.Shelf Go.Lib Go.Proofs.YtapeodbgobkjeaaGreatDoorW.PrintWords Go.Proofs.YtapeodbgobkjeaaGreatDoorW.PrintLast Go.Proofs.YtapeodbgobkjeaaGreatDoorW.PrintMore
open H (DecAt)
set_option maxHeartbeats 1600000 in
set_option maxRecDepth 100000 in
theorem chunk_take.calls (B b : Nat) (st : Int) (lf : Nat) (line : ByteArray) (many : Int) (body s : ByteArray) (w : World) (h : DecAt B b st lf line many body w) (hB : B ≤ w.heap.size) (hm : 0 ≤ many ∧ many ≤ 1000000) (hl : lf ≤ 1000000) (hs : s.size ≤ 9223372036854775807) (hb : body.size ≤ 140737487355328) :
  Calls Tryz.prog 114 #[.pointer (some ⟨b, 0, none⟩), .string s] w fun e w' => e = .returned (.int .i64 (min s.size lf : Nat)) ∧
   DecAt B b (if lf - min s.size lf = 0 then 2 else st) ((lf - min s.size lf : Nat) : Int) line (many + (min s.size lf : Nat)) (body ++ s.extract 0 (min s.size lf)) w' ∧ Below B w w' := by
 obtain ⟨c0, c1, c2, c3, fz⟩ := h.cells
 obtain ⟨n, hn⟩ : ∃ n, n = min s.size lf := ⟨_, rfl⟩
 rw [← hn]
 obtain ⟨sx, hsx⟩ : ∃ sx, sx = (if lf - n = 0 then (2 : Int) else st) := ⟨_, rfl⟩
 rw [← hsx]
 have hmin : min (s.size : Int) (lf : Int) = (n : Int) := by omega
 have hns : (n : Int) ≤ (s.size : Int) := by omega
 have hn0 : (0 : Int) ≤ (n : Int) := by omega
 obtain ⟨hBb, v, hk, hown, hne⟩ := h
 have c4 : w.cell? ⟨b, 4, none⟩ = some v := by rw [Go.Lib.cell_of_heap hk]; rfl
 have hlt := World.block_lt_of_cell? _ _ c4
 have hxs : (s.extract 0 n).size = n := by rw [ByteArray.size_extract]; omega
 have hbytes : body.size + (s.extract 0 n).size ≤ 140737488355328 := by omega
 have HN := Lib.hid hn
 have HSX := Lib.hid hsx
 have HB := Lib.hid hB
 have HM := Lib.hid hm
 have HL := Lib.hid hl
 have HX := Lib.hid hxs
 have HY := Lib.hid hbytes
 have HK := Lib.hid hk
 have HO := Lib.hid hown
 have HE := Lib.hid hne
 have HLT := Lib.hid hlt
 have HBB := Lib.hid hBb
 clear hB fz hm hl hk hown hne hxs hbytes hn hb hlt hBb hsx
 go_enter Tryz.func114, Tryz.ntmps114
 go_wp2_with fail
 clear hmin
 go_region_law (refine H.step_append_str rfl (.tmp 18) (.tmp 21) 22 9 rfl B 5 _ Tryz.underlying22 Tryz.underlying9 (by kernel_rfl) rfl v body.size (strCells body) (by simp [Act.eval, Act.put]) HO.out (s.extract 0 n) (by simp [Act.eval, Act.put]) HY.out HB.out ?_; intro v' w' hown' hgrow; obtain ⟨ao, n', cap, rfl⟩ := H.slice_of hown'; have hk' := (hgrow.block b HLT.out (fun e => HE.out e.symm)).trans HK.out; have d4 : w'.cell? ⟨b, 4, none⟩ = some v := (by rw [cell_of_heap hk']; rfl); have f4 : w'.frozen? ⟨b, 4, none⟩ = false := frozen_of_heap hk' 4)
 have HD1 := Lib.hid (H.DecAt.put HBB.out hk' hown')
 have HB1 := Lib.hid (((Below.refl B w).drew.grown hgrow HB.out (fun k hk => (HO.out.lt k hk).1)).setCell (p := ⟨b, 4, none⟩) HBB.out (.slice ao n' cap))
 obtain ⟨W, hW⟩ : ∃ W, W = w'.setCell ⟨b, 4, none⟩ (.slice ao n' cap) := ⟨_, rfl⟩
 rw [← hW]
 rw [← hW] at HD1 HB1
 clear hW hk' hown' hgrow d4 f4 c0 c1 c2 c3 c4 HO HK HE
 have hn := HN.out
 have hm := HM.out
 have hl := HL.out
 have hw1 : wrap64 ((lf : Int) - (n : Int)) = ((lf - n : Nat) : Int) := by unfold wrap64; omega
 have hw2 : wrap64 (many + (n : Int)) = many + (n : Int) := by unfold wrap64; omega
 obtain ⟨x0, x1, x2, x3, xf⟩ := HD1.out.cells
 have HD2 := Lib.hid (HD1.out.set1 ((lf - n : Nat) : Int))
 obtain ⟨y0, y1, y2, y3, yf⟩ := HD2.out.cells
 have HD3 := Lib.hid (HD2.out.set3 (many + (n : Int)))
 obtain ⟨z0, z1, z2, z3, zf⟩ := HD3.out.cells
 have g1 := xf 1
 have g2 := yf 3
 have g3 := zf 0
 clear xf yf zf hn hm hl hns hn0
 by_cases hz : lf - n = 0
 ·have d : (((lf - n : Nat) : Int) == 0) = true := by rw [hz]; rfl
  have hsx : sx = 2 := by rw [HSX.out, if_pos hz]
  subst hsx
  clear hz HSX
  go_wp2_with fail
  go_ret
  exact ⟨rfl, HD3.out.set0 2, ((HB1.out.setCell (p := ⟨b, 1, none⟩) HBB.out _).setCell (p := ⟨b, 3, none⟩) HBB.out _).setCell (p := ⟨b, 0, none⟩) HBB.out _⟩
 ·have d : (((lf - n : Nat) : Int) == 0) = false := beq_eq_false_iff_ne.mpr (by omega)
  have hsx : sx = st := by rw [HSX.out, if_neg hz]
  subst hsx
  clear hz HSX
  go_wp2_with fail
  go_ret
  exact ⟨rfl, HD3.out, (HB1.out.setCell (p := ⟨b, 1, none⟩) HBB.out _).setCell (p := ⟨b, 3, none⟩) HBB.out _⟩
end Go.Proofs.YtapeodbgobkjeaaGreatDoor.P
namespace Go.Proofs.YtapeodbgobkjeaaGreatDoor.H
open Go.RowKit Go.Shelf Go Go.Lib
theorem run_text {B : Nat} {v : Value} {body : ByteArray} {W : World} (h : W.ownsRow B 5 1 v body.size (strCells body)) :
  (convert 22 9 v).run Tryz.prog W = .ok (.string body) W := by
 have hcs := fun g hg => World.ownsRow.cells h (g := g) hg
 obtain ⟨h1, h2⟩ := h
 rcases h2 with ⟨rfl, h0⟩ | ⟨g, cap, cur, rfl, hg, hh, hle, hm, hs, ht⟩
 ·have e : body = ⟨#[]⟩ := H.ba_ext (by
   have : body.data.toList.length = 0 := by rw [← size_eq]; exact h0
   simpa using List.eq_nil_of_length_eq_zero this)
  subst e
  exact run_convert_nil_bytes W 22 9 5 0 Tryz.underlying22 Tryz.underlying5 Tryz.underlying9
 ·refine Lib.run_convert_whole W 22 5 9 Tryz.underlying22 Tryz.underlying5 Tryz.underlying9 g 0 body ?_ cap
  intro i hi
  have hc := hcs g rfl i (.int .u8 (body[i].toNat : Int)) (by
   unfold strCells
   have hi' : i < body.data.toList.length := by rw [← size_eq]; exact hi
   rw [List.getElem?_map, List.getElem?_eq_getElem hi']
   rfl)
  rw [Nat.zero_add]
  have e : ((⟨g, 0, none⟩ : Addr).add i) = ⟨g, i, none⟩ := by unfold Addr.add; split <;> simp_all
  rw [e] at hc
  exact hc
end Go.Proofs.YtapeodbgobkjeaaGreatDoor.H
namespace Go.Proofs.YtapeodbgobkjeaaGreatDoor.P
open Go.RowKit Go.Shelf Go.Lib Go.Proofs.YtapeodbgobkjeaaGreatDoorW.PrintWords Go.Proofs.YtapeodbgobkjeaaGreatDoorW.PrintLast Go.Proofs.YtapeodbgobkjeaaGreatDoorW.PrintMore
open H (DecAt)
def chunk_Feed.l0 : Nat → ByteArray → Nat → Int → Int → ByteArray → Int → ByteArray → Option (Int × Int × Int × ByteArray × Int × Nat × ByteArray)
 | 0, _, _, _, _, _, _, _ => none
 | k + 1, s, i, st, left, line, many, body =>
  if i < s.size then
   if st = 4 then some (0, st, left, line, many, i, body)
   else if 0 ≤ many ∧ many ≤ 1000000 then
    if st = 1 then
     if 1 ≤ left ∧ left ≤ 1000000 ∧ body.size ≤ 140737487355328 then
      chunk_Feed.l0 k s (i + min (s.size - i) left.toNat) (if left.toNat - min (s.size - i) left.toNat = 0 then 2 else st) ((left.toNat - min (s.size - i) left.toNat : Nat) : Int) line (many + (min (s.size - i) left.toNat : Nat)) (body ++ (s.extract i s.size).extract 0 (min (s.size - i) left.toNat))
     else none
    else (chunk_one.f k st left line many (s.data.toList.getD i 0)).bind fun p =>
     if p.1 = 0 then chunk_Feed.l0 k s (i + 1) p.2.1 p.2.2.1 p.2.2.2 many body else some (p.1, st, left, line, many, i, body)
   else none
  else some (0, st, left, line, many, i, body)
def chunk_Feed.f (k : Nat) (a0_0 a0_1 : Int) (a0_2 : ByteArray) (a0_3 : Int) (a1 : ByteArray) : Option (Int × Int × ByteArray × Int × Int × ByteArray × Int) :=
 (chunk_Right.f k a0_0 a0_1 a0_2 a0_3).bind fun r =>
  if r = true then
   if a1.size ≤ 4611686018427387904 then
    (chunk_Feed.l0 k a1 0 a0_0 a0_1 a0_2 a0_3 ⟨#[]⟩).bind fun p =>
     if p.1 = 0 then some (p.2.1, p.2.2.1, p.2.2.2.1, p.2.2.2.2.1, (p.2.2.2.2.2.1 : Int), p.2.2.2.2.2.2, 0) else some (a0_0, a0_1, a0_2, a0_3, 0, ⟨#[]⟩, p.1)
   else none
  else some (a0_0, a0_1, a0_2, a0_3, 0, ⟨#[]⟩, 1)
theorem chunk_Feed.mono_l : ∀ (k : Nat) (s : ByteArray) (i : Nat) (st left : Int) (line : ByteArray) (many : Int) (body : ByteArray), LeO (chunk_Feed.l0 k s i st left line many body) (chunk_Feed.l0 (k + 1) s i st left line many body)
 | 0, _, _, _, _, _, _, _ => fun r h => by simp [chunk_Feed.l0] at h
 | k + 1, s, i, st, left, line, many, body => by
  have ih := chunk_Feed.mono_l k
  unfold chunk_Feed.l0
  exact .ite (.ite (.refl _) (.ite (.ite (.ite (ih _ _ _ _ _ _ _) (.refl _)) (.bind (chunk_one.mono _ _ _ _ _ _) fun p => .ite (ih _ _ _ _ _ _ _) (.refl _))) (.refl _))) (.refl _)
theorem chunk_Feed.mono (a0_0 a0_1 : Int) (a0_2 : ByteArray) (a0_3 : Int) (a1 : ByteArray) (k : Nat) : LeO (chunk_Feed.f k a0_0 a0_1 a0_2 a0_3 a1) (chunk_Feed.f (k + 1) a0_0 a0_1 a0_2 a0_3 a1) := by
 unfold chunk_Feed.f
 exact .bind (chunk_Right.mono _ _ _ _ _) fun r => .ite (.ite (.bind (chunk_Feed.mono_l _ _ _ _ _ _ _ _) fun p => .refl _) (.refl _)) (.refl _)
theorem two_laid (W : World) (o0 o1 : Obj) : ((W.alloc o0).alloc o1).heap[W.heap.size]? = some o0 ∧ ((W.alloc o0).alloc o1).heap[W.heap.size + 1]? = some o1 := by
 have e : ((W.alloc o0).alloc o1).heap = (W.heap.push o0).push o1 := rfl
 rw [e]
 refine ⟨?_, ?_⟩ <;> simp only [Array.getElem?_push, Array.size_push] <;> repeat (first | rw [if_pos trivial] | rw [if_neg (by omega)] | rw [if_pos (by omega)])
theorem feed_ret {R : Ending → World → Prop} (tmps : Array Value) (W : World) (g : Nat) (cs : Array Value) (v5 v6 v7 : Value) (hcs : cs.size = 4) (h4 : tmps.getD 4 undef = .pointer (some ⟨g, 0, none⟩)) (h5 : tmps.getD 5 undef = v5) (h6 : tmps.getD 6 undef = v6) (h7 : tmps.getD 7 undef = v7)
  (hg : W.heap[g]? = some (.cells cs 26 (0, 0))) (h : R (.returned (.tuple #[.agg cs, v5, v6, v7])) W) : bodyPost Tryz.prog Tryz.f88 R .ret ⟨tmps, []⟩ W := by
 subst h5 h6 h7
 exact bodyPost_ret (results_list (rs := [.cell 4 26, .tmp 5, .tmp 6, .tmp 7]) rfl (by simp) (.cell g 26 cs (0, 0) _ h4 hg Tryz.underlying26 rfl (by rw [hcs]; kernel_rfl) (.tmp (.tmp (.tmp .nil))))) rfl h
theorem four_put {W : World} {g : Nat} {x0 x1 x2 x3 : Value} (y0 y1 y2 y3 : Value) (h : W.heap[g]? = some (.cells #[x0, x1, x2, x3] 26 (0, 0))) :
  ((((W.setCell ⟨g, 0, none⟩ y0).setCell ⟨g, 1, none⟩ y1).setCell ⟨g, 2, none⟩ y2).setCell ⟨g, 3, none⟩ y3).heap[g]? = some (.cells #[y0, y1, y2, y3] 26 (0, 0)) :=
 blk_put (cs := #[y0, y1, y2, x3]) (blk_put (cs := #[y0, y1, x2, x3]) (blk_put (cs := #[y0, x1, x2, x3]) (blk_put h 0 y0 rfl) 1 y1 rfl) 2 y2 rfl) 3 y3 rfl
theorem four_below {B : Nat} {W0 W : World} {g : Nat} (y0 y1 y2 y3 : Value) (h : Below B W0 W) (hg : B ≤ g) :
  Below B W0 ((((W.setCell ⟨g, 0, none⟩ y0).setCell ⟨g, 1, none⟩ y1).setCell ⟨g, 2, none⟩ y2).setCell ⟨g, 3, none⟩ y3) :=
 (((h.setCell (p := ⟨g, 0, none⟩) hg y0).setCell (p := ⟨g, 1, none⟩) hg y1).setCell (p := ⟨g, 2, none⟩) hg y2).setCell (p := ⟨g, 3, none⟩) hg y3
set_option maxHeartbeats 3200000 in
set_option maxRecDepth 100000 in
theorem chunk_Feed.calls (k : Nat) (a0_0 a0_1 : Int) (a0_2 : ByteArray) (a0_3 : Int) (a1 : ByteArray) (r1 r2 : Int) (r3 : ByteArray) (r4 r5 : Int) (r6 : ByteArray) (r7 : Int) (w : World) (h : chunk_Feed.f k a0_0 a0_1 a0_2 a0_3 a1 = some (r1, r2, r3, r4, r5, r6, r7)) :
  Calls Tryz.prog 88 #[.agg #[.int .i64 a0_0, .int .i64 a0_1, .string a0_2, .int .i64 a0_3], .string a1] w fun e w' => e = .returned (.tuple #[.agg #[.int .i64 r1, .int .i64 r2, .string r3, .int .i64 r4], .int .i64 r5, .string r6, .int .i64 r7]) ∧ Below w.heap.size w w' := by
 unfold chunk_Feed.f at h
 obtain ⟨r, hR, h⟩ := Option.bind_eq_some_iff.1 h
 have HR := Lib.hid hR
 have H := Lib.hid h
 obtain ⟨bb, hbb⟩ : ∃ bb, bb = w.heap.size := ⟨_, rfl⟩
 clear hR h
 go_enter Tryz.func88, Tryz.ntmps88
 go_wp2_with fail
 obtain ⟨q0, q1⟩ := two_laid w (.cells #[.int .i64 a0_0, .int .i64 a0_1, .string a0_2, .int .i64 a0_3] 26) (.cells #[.int .i64 0, .int .i64 0, .string ⟨#[]⟩, .int .i64 0] 26)
 have hbW := below_alloc (below_alloc (Below.refl w.heap.size w) (.cells #[.int .i64 a0_0, .int .i64 a0_1, .string a0_2, .int .i64 a0_3] 26)) (.cells #[.int .i64 0, .int .i64 0, .string ⟨#[]⟩, .int .i64 0] 26)
 have hsz : ((w.alloc (.cells #[.int .i64 a0_0, .int .i64 a0_1, .string a0_2, .int .i64 a0_3] 26)).alloc (.cells #[.int .i64 0, .int .i64 0, .string ⟨#[]⟩, .int .i64 0] 26)).heap.size = bb + 2 := by rw [hbb]; simp
 obtain ⟨W0, hW0⟩ : ∃ W0, W0 = (w.alloc (.cells #[.int .i64 a0_0, .int .i64 a0_1, .string a0_2, .int .i64 a0_3] 26)).alloc (.cells #[.int .i64 0, .int .i64 0, .string ⟨#[]⟩, .int .i64 0] 26) := ⟨_, rfl⟩
 rw [← hW0] at q0 q1 hbW hsz ⊢
 refine (chunk_Right.calls k a0_0 a0_1 a0_2 a0_3 r W0 HR.out).mono ?_; rintro e w1 ⟨rfl, hB1⟩
 have HB1 := Lib.hid (hbW.trans (hB1.mono (by omega)))
 have hs1 := Nat.le_trans (Nat.le_of_eq hsz.symm) hB1.size
 rw [← hbb] at q0 q1
 have P0 := Lib.hid ((hB1.block bb (by omega)).trans q0)
 have P1 := Lib.hid ((hB1.block (bb + 1) (by omega)).trans q1)
 have HS1 := Lib.hid hs1
 have HBB := Lib.hid hbb
 simp only [← hbb]
 clear hW0 q0 q1 hbW hsz hB1 hs1 hbb h
 have c0 : w1.cell? ⟨bb, 0, none⟩ = some (.int .i64 a0_0) := by rw [cell_of_heap P0.out]; rfl
 have c1 : w1.cell? ⟨bb, 1, none⟩ = some (.int .i64 a0_1) := by rw [cell_of_heap P0.out]; rfl
 have c2 : w1.cell? ⟨bb, 2, none⟩ = some (.string a0_2) := by rw [cell_of_heap P0.out]; rfl
 have c3 : w1.cell? ⟨bb, 3, none⟩ = some (.int .i64 a0_3) := by rw [cell_of_heap P0.out]; rfl
 cases r with
 | false =>
  have h := H.out
  rw [if_neg (by decide)] at h
  simp only [Option.some.injEq, Prod.mk.injEq] at h
  obtain ⟨rfl, rfl, rfl, rfl, rfl, rfl, rfl⟩ := h
  have z0 : w1.cell? ⟨bb + 1, 0, none⟩ = some (.int .i64 0) := by rw [cell_of_heap P1.out]; rfl
  have z1 : w1.cell? ⟨bb + 1, 1, none⟩ = some (.int .i64 0) := by rw [cell_of_heap P1.out]; rfl
  have z2 : w1.cell? ⟨bb + 1, 2, none⟩ = some (.string ⟨#[]⟩) := by rw [cell_of_heap P1.out]; rfl
  have z3 : w1.cell? ⟨bb + 1, 3, none⟩ = some (.int .i64 0) := by rw [cell_of_heap P1.out]; rfl
  have f0 := frozen_of_heap P1.out 0
  have f1 := frozen_of_heap P1.out 1
  have f2 := frozen_of_heap P1.out 2
  have f3 := frozen_of_heap P1.out 3
  clear H
  go_wp2_with fail
  exact feed_ret _ _ (bb + 1) _ _ _ _ rfl rfl rfl rfl rfl (four_put _ _ _ _ P1.out) ⟨rfl, four_below _ _ _ _ HB1.out (by rw [HBB.out]; omega)⟩
 | true =>
  have h := H.out
  rw [if_pos rfl] at h
  split at h
  case isFalse => cases h
  case isTrue hs =>
  obtain ⟨⟨ee, st', left', line', many', n', body'⟩, hl, h⟩ := Option.bind_eq_some_iff.1 h
  have HL := Lib.hid hl
  have HE := Lib.hid h
  clear H hl h
  have hB2 : Below w.heap.size w (w1.alloc (.cells #[.int .i64 a0_0, .int .i64 a0_1, .string a0_2, .int .i64 a0_3, .slice none 0 0] 138)) := HB1.out.alloc HB1.out.size _
  have hD2 : DecAt (bb + 2) w1.heap.size a0_0 a0_1 a0_2 a0_3 ⟨#[]⟩ (w1.alloc (.cells #[.int .i64 a0_0, .int .i64 a0_1, .string a0_2, .int .i64 a0_3, .slice none 0 0] 138)) :=
   ⟨HS1.out, .slice none 0 0, heap_alloc_new w1 _, World.ownsRow_nil _ _ _ _, by simp [Value.ownBlock]⟩
  have P1W := Lib.hid ((Below.heap_alloc w1 (.cells #[.int .i64 a0_0, .int .i64 a0_1, .string a0_2, .int .i64 a0_3, .slice none 0 0] 138) (bb + 1) (by have := HS1.out; omega)).trans P1.out)
  have P0W := Lib.hid ((Below.heap_alloc w1 (.cells #[.int .i64 a0_0, .int .i64 a0_1, .string a0_2, .int .i64 a0_3, .slice none 0 0] 138) bb (by have := HS1.out; omega)).trans P0.out)
  have HB2 := Lib.hid hB2
  have HD2 := Lib.hid hD2
  have HS2 : Hid (w.heap.size ≤ bb + 2) := Lib.hid (by have := HBB.out; omega)
  have HSz := Lib.hid hs
  clear hB2 hD2 hs
  go_wp2_with fail
  obtain ⟨W2, hW2⟩ : ∃ W2, W2 = w1.alloc (.cells #[.int .i64 a0_0, .int .i64 a0_1, .string a0_2, .int .i64 a0_3, .slice none 0 0] 138) := ⟨_, rfl⟩
  rw [← hW2] at HB2 HD2 P1W P0W ⊢
  clear hW2 c0 c1 c2 c3
  go_loopw [9] (fun v9 wr => ∃ (kq i : Nat) (st left : Int) (line : ByteArray) (many : Int) (body : ByteArray), v9 = .int .i64 i ∧ Hid (chunk_Feed.l0 kq a1 i st left line many body = some (ee, st', left', line', many', n', body')) ∧ Hid (i ≤ a1.size) ∧ Hid (DecAt (bb + 2) w1.heap.size st left line many body wr) ∧ Hid (Below (bb + 2) W2 wr)) (fun v9 _ => a1.size - (RowKit.intOf v9).toNat)
  case atStart => exact ⟨k, 0, a0_0, a0_1, a0_2, a0_3, ⟨#[]⟩, rfl, HL, Lib.hid (Nat.zero_le _), HD2, Lib.hid (Below.refl _ _)⟩
  case round =>
   obtain ⟨kq, i, st, left, line, many, body, rfl, HLq, HI, HD, HR2⟩ := hrel
   have hl := HLq.out
   cases kq with
   | zero => simp [chunk_Feed.l0] at hl
   | succ kq =>
   unfold chunk_Feed.l0 at hl
   by_cases hi : i < a1.size
   ·have hi' : decide ((i : Int) < (a1.size : Int)) = true := decide_eq_true (by omega)
    rw [if_pos hi] at hl
    by_cases h4 : st = 4
    ·subst h4
     rw [if_pos rfl] at hl
     have hb := HR2.out
     obtain ⟨hBb, v, hk, hown, hne⟩ := HD.out
     obtain ⟨d0, d1, d2, d3, -⟩ := HD.out.cells
     have d4 : wr.cell? ⟨w1.heap.size, 4, none⟩ = some v := by rw [Go.Lib.cell_of_heap hk]; rfl
     have P1r := Lib.hid ((hb.block (bb + 1) (by omega)).trans P1W.out)
     have z0 : wr.cell? ⟨bb + 1, 0, none⟩ = some (.int .i64 0) := by rw [cell_of_heap P1r.out]; rfl
     have z1 : wr.cell? ⟨bb + 1, 1, none⟩ = some (.int .i64 0) := by rw [cell_of_heap P1r.out]; rfl
     have z2 : wr.cell? ⟨bb + 1, 2, none⟩ = some (.string ⟨#[]⟩) := by rw [cell_of_heap P1r.out]; rfl
     have z3 : wr.cell? ⟨bb + 1, 3, none⟩ = some (.int .i64 0) := by rw [cell_of_heap P1r.out]; rfl
     have f0 := frozen_of_heap P1r.out 0
     have f1 := frozen_of_heap P1r.out 1
     have f2 := frozen_of_heap P1r.out 2
     have f3 := frozen_of_heap P1r.out 3
     have hcv := H.run_text (W := wr.drew) (v := v) (body := body) hown
     have hlt1 : bb + 1 < bb + 2 := by omega
     have hcv2 := H.run_text (W := (((((wr.setCell ⟨bb + 1, 0, none⟩ (.int .i64 4)).setCell ⟨bb + 1, 1, none⟩ (.int .i64 left)).setCell ⟨bb + 1, 2, none⟩ (.string line)).setCell ⟨bb + 1, 3, none⟩ (.int .i64 many))).drew) (v := v) (body := body)
      (ownsRow_setCell_below (ownsRow_setCell_below (ownsRow_setCell_below (ownsRow_setCell_below hown (a := ⟨bb + 1, 0, none⟩) hlt1 (.int .i64 4)) (a := ⟨bb + 1, 1, none⟩) hlt1 (.int .i64 left)) (a := ⟨bb + 1, 2, none⟩) hlt1 (.string line)) (a := ⟨bb + 1, 3, none⟩) hlt1 (.int .i64 many))
     have hne1 : ¬ (w1.heap.size = bb + 1) := by have := HS1.out; omega
     have hne2 : ¬ (bb + 1 = w1.heap.size) := by have := HS1.out; omega
     have HBr := Lib.hid (HB2.out.trans (hb.mono HS2.out))
     have he := HE.out
     simp only [Option.some.injEq, Prod.mk.injEq] at hl
     obtain ⟨rfl, rfl, rfl, rfl, rfl, rfl, rfl⟩ := hl
     rw [if_pos rfl] at he
     simp only [Option.some.injEq, Prod.mk.injEq] at he
     obtain ⟨rfl, rfl, rfl, rfl, rfl, rfl, rfl⟩ := he
     clear hb hBb hk hown hne HE hlt1
     go_wp2_with fail
     go_region
     go_wp2_with fail
     exact feed_ret _ _ (bb + 1) _ _ _ _ rfl rfl rfl rfl rfl (four_put _ _ _ _ P1r.out) ⟨rfl, (four_below _ _ _ _ HBr.out (by rw [HBB.out]; omega)).drew⟩
    ·have d4 : (st != 4) = true := bne_iff_ne.mpr h4
     rw [if_neg h4] at hl
     split at hl
     case isFalse => cases hl
     case isTrue hmany =>
     split at hl
     case isTrue h1 =>
      subst h1
      split at hl
      case isFalse => cases hl
      case isTrue hleft =>
      obtain ⟨lf, rfl⟩ : ∃ lf : Nat, left = lf := ⟨left.toNat, by omega⟩
      rw [Int.toNat_natCast] at hl
      have hes : (a1.extract i a1.size).size = a1.size - i := by rw [ByteArray.size_extract]; omega
      obtain ⟨n, hn⟩ : ∃ n, n = min (a1.size - i) lf := ⟨_, rfl⟩
      have K := Lib.hid (chunk_take.calls (bb + 2) w1.heap.size 1 lf line many body (a1.extract i a1.size) wr HD.out (by have := HR2.out.size; have := HD.out.lt; have := HS1.out; omega) hmany (by omega) (by have := HSz.out; omega) hleft.2.2)
      rw [hes, ← hn] at K
      rw [← hn] at hl
      have HLn := Lib.hid hl
      obtain ⟨d0, d1, d2, d3, -⟩ := HD.out.cells
      have hw : wrap64 ((i : Int) + (n : Int)) = ((i + n : Nat) : Int) := by have := HSz.out; unfold wrap64; omega
      have HI2 : Hid (i < a1.size) := Lib.hid hi
      have HW := Lib.hid hw
      have HN : Hid (1 ≤ n ∧ n ≤ a1.size - i) := Lib.hid (by omega)
      clear hl hes hn hw hmany hleft h4 hi HLq
      go_upto_region 7 with (fail)
      have hi2 : (i : Int) ≤ (a1.size : Int) := by have := HI2.out; omega
      go_wp2_with fail
      refine K.out.mono ?_; rintro e w5 ⟨rfl, hd, hb⟩
      have HD5 := Lib.hid hd
      have HB5 := Lib.hid (HR2.out.trans hb)
      have hw := HW.out
      clear hd hb HD HR2 K
      go_wp2_with fail
      refine ⟨⟨kq, i + n, _, _, _, _, _, by rw [hw], HLn, Lib.hid (by have := HN.out; omega), HD5, HB5⟩, ?_⟩
      rw [hw]
      have := HN.out
      simp only [RowKit.intOf, Int.toNat_natCast]
      omega
     case isFalse h1 =>
      have dn1 : (st == 1) = false := beq_eq_false_iff_ne.mpr h1
      obtain ⟨⟨p1, p2, p3, p4⟩, hone, hl⟩ := Option.bind_eq_some_iff.1 hl
      obtain ⟨d0, d1, d2, d3, -⟩ := HD.out.cells
      have hi2 : (i : Int) < (a1.size : Int) := by omega
      have hc : a1.data.toList.getD i 0 = a1[i] := by
       have hi' : i < a1.data.toList.length := by rw [← size_eq]; exact hi
       rw [List.getD_eq_getElem?_getD, List.getElem?_eq_getElem hi', Option.getD_some]
       rfl
      rw [hc] at hone
      have HLn := Lib.hid hl
      have K := Lib.hid (chunk_one.calls kq (bb + 2) w1.heap.size st left line many body a1[i] p1 p2 p3 p4 wr HD.out (by have := HR2.out.size; have := HD.out.lt; have := HS1.out; omega) (by omega) hone)
      have hw : wrap64 ((i : Int) + 1) = ((i + 1 : Nat) : Int) := by have := HSz.out; unfold wrap64; omega
      have HW := Lib.hid hw
      have HI2 : Hid (i < a1.size) := Lib.hid hi
      clear hl hone hmany h4 h1 HLq hw hc
      go_wp2_with fail
      refine K.out.mono ?_; rintro e w5 ⟨rfl, hd, hb⟩
      have HB5 := Lib.hid (HR2.out.trans hb)
      have hln := HLn.out
      by_cases hp : p1 = 0
      ·subst hp
       rw [if_pos rfl] at hln
       have HD5 := Lib.hid (hd rfl)
       have HLm := Lib.hid hln
       have hw := HW.out
       clear hd hb HD HR2 K hln
       go_wp2_with fail
       refine ⟨⟨kq, i + 1, _, _, _, _, _, by rw [hw], HLm, Lib.hid (by have := HI2.out; omega), HD5, HB5⟩, ?_⟩
       rw [hw]
       have := HI2.out
       simp only [RowKit.intOf, Int.toNat_natCast]
       omega
      ·have dp : (p1 != 0) = true := bne_iff_ne.mpr hp
       rw [if_neg hp] at hln
       simp only [Option.some.injEq, Prod.mk.injEq] at hln
       obtain ⟨rfl, rfl, rfl, rfl, rfl, rfl, rfl⟩ := hln
       have he := HE.out
       rw [if_neg hp] at he
       simp only [Option.some.injEq, Prod.mk.injEq] at he
       obtain ⟨rfl, rfl, rfl, rfl, rfl, rfl, rfl⟩ := he
       have P0r := Lib.hid ((HB5.out.block bb (by omega)).trans P0W.out)
       have P1r := Lib.hid ((HB5.out.block (bb + 1) (by omega)).trans P1W.out)
       have HBr := Lib.hid (HB2.out.trans (HB5.out.mono HS2.out))
       have c0 : w5.cell? ⟨bb, 0, none⟩ = some (.int .i64 a0_0) := by rw [cell_of_heap P0r.out]; rfl
       have c1 : w5.cell? ⟨bb, 1, none⟩ = some (.int .i64 a0_1) := by rw [cell_of_heap P0r.out]; rfl
       have c2 : w5.cell? ⟨bb, 2, none⟩ = some (.string a0_2) := by rw [cell_of_heap P0r.out]; rfl
       have c3 : w5.cell? ⟨bb, 3, none⟩ = some (.int .i64 a0_3) := by rw [cell_of_heap P0r.out]; rfl
       have z0 : w5.cell? ⟨bb + 1, 0, none⟩ = some (.int .i64 0) := by rw [cell_of_heap P1r.out]; rfl
       have z1 : w5.cell? ⟨bb + 1, 1, none⟩ = some (.int .i64 0) := by rw [cell_of_heap P1r.out]; rfl
       have z2 : w5.cell? ⟨bb + 1, 2, none⟩ = some (.string ⟨#[]⟩) := by rw [cell_of_heap P1r.out]; rfl
       have z3 : w5.cell? ⟨bb + 1, 3, none⟩ = some (.int .i64 0) := by rw [cell_of_heap P1r.out]; rfl
       have f0 := frozen_of_heap P1r.out 0
       have f1 := frozen_of_heap P1r.out 1
       have f2 := frozen_of_heap P1r.out 2
       have f3 := frozen_of_heap P1r.out 3
       clear hd hb HD HR2 K hp HE HL HLn
       go_wp2_with fail
       exact feed_ret _ _ (bb + 1) _ _ _ _ rfl rfl rfl rfl rfl (four_put _ _ _ _ P1r.out) ⟨rfl, four_below _ _ _ _ HBr.out (by rw [HBB.out]; omega)⟩
   ·have hi' : decide ((i : Int) < (a1.size : Int)) = false := decide_eq_false (by omega)
    rw [if_neg hi] at hl
    have hb := HR2.out
    obtain ⟨hBb, v, hk, hown, hne⟩ := HD.out
    obtain ⟨d0, d1, d2, d3, -⟩ := HD.out.cells
    have d4 : wr.cell? ⟨w1.heap.size, 4, none⟩ = some v := by rw [Go.Lib.cell_of_heap hk]; rfl
    have P1r := Lib.hid ((hb.block (bb + 1) (by omega)).trans P1W.out)
    have z0 : wr.cell? ⟨bb + 1, 0, none⟩ = some (.int .i64 0) := by rw [cell_of_heap P1r.out]; rfl
    have z1 : wr.cell? ⟨bb + 1, 1, none⟩ = some (.int .i64 0) := by rw [cell_of_heap P1r.out]; rfl
    have z2 : wr.cell? ⟨bb + 1, 2, none⟩ = some (.string ⟨#[]⟩) := by rw [cell_of_heap P1r.out]; rfl
    have z3 : wr.cell? ⟨bb + 1, 3, none⟩ = some (.int .i64 0) := by rw [cell_of_heap P1r.out]; rfl
    have f0 := frozen_of_heap P1r.out 0
    have f1 := frozen_of_heap P1r.out 1
    have f2 := frozen_of_heap P1r.out 2
    have f3 := frozen_of_heap P1r.out 3
    have hcv := H.run_text (W := wr.drew) (v := v) (body := body) hown
    have hlt1 : bb + 1 < bb + 2 := by omega
    have hcv2 := H.run_text (W := (((((wr.setCell ⟨bb + 1, 0, none⟩ (.int .i64 st)).setCell ⟨bb + 1, 1, none⟩ (.int .i64 left)).setCell ⟨bb + 1, 2, none⟩ (.string line)).setCell ⟨bb + 1, 3, none⟩ (.int .i64 many))).drew) (v := v) (body := body)
     (ownsRow_setCell_below (ownsRow_setCell_below (ownsRow_setCell_below (ownsRow_setCell_below hown (a := ⟨bb + 1, 0, none⟩) hlt1 (.int .i64 st)) (a := ⟨bb + 1, 1, none⟩) hlt1 (.int .i64 left)) (a := ⟨bb + 1, 2, none⟩) hlt1 (.string line)) (a := ⟨bb + 1, 3, none⟩) hlt1 (.int .i64 many))
    have hne1 : ¬ (w1.heap.size = bb + 1) := by have := HS1.out; omega
    have hne2 : ¬ (bb + 1 = w1.heap.size) := by have := HS1.out; omega
    have HBr := Lib.hid (HB2.out.trans (hb.mono HS2.out))
    have he := HE.out
    simp only [Option.some.injEq, Prod.mk.injEq] at hl
    obtain ⟨rfl, rfl, rfl, rfl, rfl, rfl, rfl⟩ := hl
    rw [if_pos rfl] at he
    simp only [Option.some.injEq, Prod.mk.injEq] at he
    obtain ⟨rfl, rfl, rfl, rfl, rfl, rfl, rfl⟩ := he
    clear hb hBb hk hown hne HE hlt1
    go_wp2_with fail
    go_region
    go_wp2_with fail
    exact feed_ret _ _ (bb + 1) _ _ _ _ rfl rfl rfl rfl rfl (four_put _ _ _ _ P1r.out) ⟨rfl, (four_below _ _ _ _ HBr.out (by rw [HBB.out]; omega)).drew⟩
end Go.Proofs.YtapeodbgobkjeaaGreatDoor.P
