/- The contracts of the lines of chunks: what a line that tells a size, a line behind a chunk, and a line of the trailer do to a decoder. -/
import Derived.Test.YthemlbefkdmegaaDoorHX0
import Derived.Test.YthemlbefkdmegaaDoorPx2
namespace Go.Proofs.YthemlbefkdmegaaDoor.P
open Go.RowKit Go.Shelf Go.Lib Go.Proofs.YthemlbefkdmegaaDoorW.PrintWords Go.Proofs.YthemlbefkdmegaaDoorW.PrintLast Go.Proofs.YthemlbefkdmegaaDoorW.PrintMore
open H (DecAt)
theorem chunk_gap_yes (B b : Nat) (st left : Int) (line : ByteArray) (many : Int) (body : ByteArray) (w : World) (h : DecAt B b st left line many body w) :
    Calls Tryd.prog 41 #[.pointer (some ⟨b, 0, none⟩), .string ⟨#[]⟩] w fun e w' => e = .returned (.int .i64 0) ∧ DecAt B b 0 left line many body w' ∧ Below B w w' := by
  obtain ⟨c0, c1, c2, c3, fz⟩ := h.cells
  have f0 := fz 0
  have H1 := Lib.hid (h.set0 0)
  have HB := Lib.hid ((Below.refl B w).setCell (p := ⟨b, 0, none⟩) h.1 (.int .i64 0))
  clear h fz
  go_enter Tryd.func41, Tryd.ntmps41
  go_wp2_with fail
  go_ret
  exact ⟨rfl, H1.out, HB.out⟩
theorem chunk_gap_no (b : Nat) (s : ByteArray) (hs : s.toList ≠ []) (w : World) :
    Calls Tryd.prog 41 #[.pointer (some ⟨b, 0, none⟩), .string s] w fun e w' => e = .returned (.int .i64 23) ∧ w' = w := by
  have c0 : (s.toList == ([] : List UInt8)) = false := beq_eq_false_iff_ne.mpr hs
  have c1 : (s.toList != ([] : List UInt8)) = true := bne_iff_ne.mpr hs
  clear hs
  go_enter Tryd.func41, Tryd.ntmps41
  go_wp2_with fail
  go_ret
  exact ⟨rfl, rfl⟩
theorem chunk_field_end (B b : Nat) (st left : Int) (line : ByteArray) (many : Int) (body : ByteArray) (w : World) (h : DecAt B b st left line many body w) :
    Calls Tryd.prog 42 #[.pointer (some ⟨b, 0, none⟩), .string ⟨#[]⟩] w fun e w' => e = .returned (.int .i64 0) ∧ DecAt B b 4 left line many body w' ∧ Below B w w' := by
  obtain ⟨c0, c1, c2, c3, fz⟩ := h.cells
  have f0 := fz 0
  have H1 := Lib.hid (h.set0 4)
  have HB := Lib.hid ((Below.refl B w).setCell (p := ⟨b, 0, none⟩) h.1 (.int .i64 4))
  clear h fz
  go_enter Tryd.func42, Tryd.ntmps42
  go_wp2_with fail
  go_ret
  exact ⟨rfl, H1.out, HB.out⟩
theorem chunk_field_one (k B b : Nat) (st left : Int) (line : ByteArray) (many : Int) (body : ByteArray) (s n v : ByteArray) (e0 : Int) (hs : s.toList ≠ []) (w : World) (h : DecAt B b st left line many body w) (hB : B ≤ w.heap.size) (hp : field_Parse.f k s = some (n, v, e0)) :
    Calls Tryd.prog 42 #[.pointer (some ⟨b, 0, none⟩), .string s] w fun e w' => e = .returned (.int .i64 (if e0 = 0 then 0 else 23)) ∧ DecAt B b st left line many body w' ∧ Below B w w' := by
  have c0 : (s.toList == ([] : List UInt8)) = false := beq_eq_false_iff_ne.mpr hs
  have c1 : (s.toList != ([] : List UInt8)) = true := bne_iff_ne.mpr hs
  have HD := Lib.hid h
  have HP := Lib.hid hp
  have HB := Lib.hid hB
  clear hs h hp hB
  by_cases he : e0 = 0
  · subst he
    rw [if_pos rfl]
    go_enter Tryd.func42, Tryd.ntmps42
    go_wp2_with fail
    refine (field_Parse.calls k s n v 0 _ HP.out).mono ?_; rintro e w1 ⟨rfl, hb⟩
    have H1 := Lib.hid (HD.out.below hb)
    have HB1 := Lib.hid (hb.mono HB.out)
    have HS := Lib.hid hb.size
    clear hb
    go_wp2_with fail
    go_ret
    refine ⟨rfl, ?_, ?_⟩
    · exact H1.out.below (below_alloc (Below.refl _ _) _)
    · exact HB1.out.alloc (Nat.le_trans HB.out HS.out) _
  · rw [if_neg he]
    have d : (e0 != 0) = true := bne_iff_ne.mpr he
    clear he
    go_enter Tryd.func42, Tryd.ntmps42
    go_wp2_with fail
    refine (field_Parse.calls k s n v e0 _ HP.out).mono ?_; rintro e w1 ⟨rfl, hb⟩
    have H1 := Lib.hid (HD.out.below hb)
    have HB1 := Lib.hid (hb.mono HB.out)
    have HS := Lib.hid hb.size
    clear hb
    go_wp2_with fail
    go_ret
    refine ⟨rfl, ?_, ?_⟩
    · exact H1.out.below (below_alloc (Below.refl _ _) _)
    · exact HB1.out.alloc (Nat.le_trans HB.out HS.out) _
/-- What a line that tells a size comes to: an error, or the size. -/
def chunk_size.f (k : Nat) (many : Int) (s : ByteArray) : Option (Int × Int) :=
  (strings_Cut.f s ⟨#[59]⟩).bind fun c => (field_Trim.f c.1).bind fun t => (num_Parse.f k t 16).bind fun p =>
    if p.2 = 1 then some (23, 0) else if p.2 = 0 then (if p.1 > 4000 - many then some (2, 0) else some (0, p.1)) else some (2, 0)
theorem chunk_size.mono (many : Int) (s : ByteArray) (k : Nat) : LeO (chunk_size.f k many s) (chunk_size.f (k + 1) many s) := by
  unfold chunk_size.f
  exact .bind (.refl _) fun c => .bind (.refl _) fun t => .bind (num_Parse.mono _ _ _) fun p => .refl _
set_option maxHeartbeats 1600000 in
theorem chunk_size.calls (k B b : Nat) (st left : Int) (line : ByteArray) (many : Int) (body : ByteArray) (s : ByteArray) (e0 n : Int) (w : World) (h : DecAt B b st left line many body w) (hB : B ≤ w.heap.size) (hm : 0 ≤ many ∧ many ≤ 9223372036854775807) (hp : chunk_size.f k many s = some (e0, n)) :
    Calls Tryd.prog 40 #[.pointer (some ⟨b, 0, none⟩), .string s] w fun e w' => e = .returned (.int .i64 e0) ∧ (e0 = 0 → DecAt B b (if n = 0 then 3 else 1) (if n = 0 then left else n) line many body w') ∧ Below B w w' := by
  unfold chunk_size.f at hp
  obtain ⟨⟨x, y, z⟩, h1, hp⟩ := Option.bind_eq_some_iff.1 hp
  obtain ⟨t, h2, hp⟩ := Option.bind_eq_some_iff.1 hp
  obtain ⟨⟨p, q⟩, h3, hp⟩ := Option.bind_eq_some_iff.1 hp
  dsimp only at hp h2
  have hw : wrap64 (4000 - many) = 4000 - many := by unfold wrap64; omega
  have HD := Lib.hid h
  have H1 := Lib.hid h1
  have H2 := Lib.hid h2
  have H3 := Lib.hid h3
  have HB := Lib.hid hB
  clear h h1 h2 h3 hB hm
  split at hp
  case isTrue c =>
    injection hp with hp; injection hp with e1 e2; subst e1 e2
    have d : (q == 1) = true := beq_iff_eq.mpr c
    have hne : ¬ ((23 : Int) = 0) := by decide
    clear c
    go_enter Tryd.func40, Tryd.ntmps40
    go_wp2_with fail
    refine (strings_Cut.calls s _ x y z _ H1.out).mono ?_; rintro e w1 ⟨rfl, hd⟩
    have HB1 := Lib.hid hd.below
    clear hd
    go_wp2_with fail
    refine (field_Trim.calls x t _ H2.out).mono ?_; rintro e w2 ⟨rfl, hd⟩
    have HB2 := Lib.hid (HB1.out.trans (hd.mono HB1.out.size))
    clear hd
    go_wp2_with fail
    refine (num_Parse.calls k t 16 p q _ H3.out).mono ?_; rintro e w3 ⟨rfl, hd⟩
    have HB3 := Lib.hid (HB2.out.trans (hd.below.mono HB2.out.size))
    clear hd
    go_wp2_with fail
    go_ret
    exact ⟨rfl, HB3.out.mono HB.out⟩
  case isFalse c =>
  have d : (q == 1) = false := beq_eq_false_iff_ne.mpr c
  split at hp
  case isFalse c2 =>
    injection hp with hp; injection hp with e1 e2; subst e1 e2
    have d2 : (q != 0) = true := bne_iff_ne.mpr c2
    have hne : ¬ ((2 : Int) = 0) := by decide
    clear c c2
    go_enter Tryd.func40, Tryd.ntmps40
    go_wp2_with fail
    refine (strings_Cut.calls s _ x y z _ H1.out).mono ?_; rintro e w1 ⟨rfl, hd⟩
    have HB1 := Lib.hid hd.below
    clear hd
    go_wp2_with fail
    refine (field_Trim.calls x t _ H2.out).mono ?_; rintro e w2 ⟨rfl, hd⟩
    have HB2 := Lib.hid (HB1.out.trans (hd.mono HB1.out.size))
    clear hd
    go_wp2_with fail
    refine (num_Parse.calls k t 16 p q _ H3.out).mono ?_; rintro e w3 ⟨rfl, hd⟩
    have HB3 := Lib.hid (HB2.out.trans (hd.below.mono HB2.out.size))
    clear hd
    go_wp2_with fail
    go_ret
    exact ⟨rfl, HB3.out.mono HB.out⟩
  case isTrue c2 =>
  have d2 : (q != 0) = false := by rw [c2]; rfl
  have d3 : (q == 0) = true := beq_iff_eq.mpr c2
  clear c c2
  split at hp
  case isTrue c3 =>
    injection hp with hp; injection hp with e1 e2; subst e1 e2
    have d4 : decide (p > 4000 - many) = true := decide_eq_true c3
    have hne : ¬ ((2 : Int) = 0) := by decide
    clear c3
    go_enter Tryd.func40, Tryd.ntmps40
    go_wp2_with fail
    refine (strings_Cut.calls s _ x y z _ H1.out).mono ?_; rintro e w1 ⟨rfl, hd⟩
    have HB1 := Lib.hid hd.below
    clear hd
    go_wp2_with fail
    refine (field_Trim.calls x t _ H2.out).mono ?_; rintro e w2 ⟨rfl, hd⟩
    have HB2 := Lib.hid (HB1.out.trans (hd.mono HB1.out.size))
    clear hd
    go_wp2_with fail
    refine (num_Parse.calls k t 16 p q _ H3.out).mono ?_; rintro e w3 ⟨rfl, hd⟩
    have HB3 := Lib.hid (HB2.out.trans (hd.below.mono HB2.out.size))
    obtain ⟨m0, m1, m2, m3, mf⟩ := (HD.out.below HB3.out).cells
    clear hd mf
    go_wp2_with fail
    go_ret
    exact ⟨rfl, HB3.out.mono HB.out⟩
  case isFalse c3 =>
    injection hp with hp; injection hp with e1 e2; subst e1 e2
    have d4 : decide (p > 4000 - many) = false := decide_eq_false c3
    clear c3
    by_cases c4 : p = 0
    · have d5 : (p == 0) = true := beq_iff_eq.mpr c4
      rw [if_pos c4, if_pos c4]
      clear c4
      go_enter Tryd.func40, Tryd.ntmps40
      go_wp2_with fail
      refine (strings_Cut.calls s _ x y z _ H1.out).mono ?_; rintro e w1 ⟨rfl, hd⟩
      have HB1 := Lib.hid hd.below
      clear hd
      go_wp2_with fail
      refine (field_Trim.calls x t _ H2.out).mono ?_; rintro e w2 ⟨rfl, hd⟩
      have HB2 := Lib.hid (HB1.out.trans (hd.mono HB1.out.size))
      clear hd
      go_wp2_with fail
      refine (num_Parse.calls k t 16 p q _ H3.out).mono ?_; rintro e w3 ⟨rfl, hd⟩
      have HB3 := Lib.hid (HB2.out.trans (hd.below.mono HB2.out.size))
      obtain ⟨m0, m1, m2, m3, mf⟩ := (HD.out.below HB3.out).cells
      have f0 := mf 0
      clear hd mf
      go_wp2_with fail
      go_ret
      exact ⟨rfl, fun _ => (HD.out.below HB3.out).set0 3, (HB3.out.mono HB.out).setCell (p := ⟨b, 0, none⟩) HD.out.1 _⟩
    · have d5 : (p == 0) = false := beq_eq_false_iff_ne.mpr c4
      rw [if_neg c4, if_neg c4]
      clear c4
      go_enter Tryd.func40, Tryd.ntmps40
      go_wp2_with fail
      refine (strings_Cut.calls s _ x y z _ H1.out).mono ?_; rintro e w1 ⟨rfl, hd⟩
      have HB1 := Lib.hid hd.below
      clear hd
      go_wp2_with fail
      refine (field_Trim.calls x t _ H2.out).mono ?_; rintro e w2 ⟨rfl, hd⟩
      have HB2 := Lib.hid (HB1.out.trans (hd.mono HB1.out.size))
      clear hd
      go_wp2_with fail
      refine (num_Parse.calls k t 16 p q _ H3.out).mono ?_; rintro e w3 ⟨rfl, hd⟩
      have HB3 := Lib.hid (HB2.out.trans (hd.below.mono HB2.out.size))
      obtain ⟨m0, m1, m2, m3, mf⟩ := (HD.out.below HB3.out).cells
      have f0 := mf 0
      have f1 : (w3.setCell ⟨b, 0, none⟩ (.int .i64 1)).frozen? ⟨b, 1, none⟩ = false := ((HD.out.below HB3.out).set0 1).cells.2.2.2.2 1
      clear hd mf
      go_wp2_with fail
      go_ret
      exact ⟨rfl, fun _ => ((HD.out.below HB3.out).set0 1).set1 p, ((HB3.out.mono HB.out).setCell (p := ⟨b, 0, none⟩) HD.out.1 _).setCell (p := ⟨b, 1, none⟩) HD.out.1 _⟩
end Go.Proofs.YthemlbefkdmegaaDoor.P
