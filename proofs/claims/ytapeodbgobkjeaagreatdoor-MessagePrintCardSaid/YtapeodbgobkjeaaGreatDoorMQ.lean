/- Several parts together: The contract of what a reader does with bytes of a head; The contract of what a reader does with some bytes. -/
import Derived.Test.YtapeodbgobkjeaaGreatDoorME
import Derived.Test.YtapeodbgobkjeaaGreatDoorMZ
set_option linter.unusedVariables false
set_option linter.unusedSimpArgs false
namespace Go.Proofs.YtapeodbgobkjeaaGreatDoor.P
open Go.RowKit Go.Shelf Go.Lib Go.Proofs.YtapeodbgobkjeaaGreatDoorW.PrintWords Go.Proofs.YtapeodbgobkjeaaGreatDoorW.PrintLast Go.Proofs.YtapeodbgobkjeaaGreatDoorW.PrintMore
theorem suffix_any (s : ByteArray) (r : Bool) (w : World) (h : endsH s = r) (hs : s.size ≤ 9223372036854775807) :
  Calls Tryz.prog 42 #[.string s, .string ⟨#[13, 10, 13, 10]⟩] w fun e w' => e = .returned (.bool r) ∧ w' = w := by
 subst h
 exact Tryz.strings_HasSuffix s ⟨#[13, 10, 13, 10]⟩ w hs
set_option maxHeartbeats 3200000 in
set_option maxRecDepth 100000 in
theorem head_any (k b : Nat) (ok : Nat → Prop) (x y : Rd) (out : List S49) (s : ByteArray) (n : Nat) (w0 w : World) (h : RdAt w0.heap.size b ok x out w) (hok : ∀ k, w0.heap.size ≤ k → ok k) (hB : Below w0.heap.size w0 w) (hG : H.GlobOk w0) (hs : s.size ≤ 4611686018427387904) (hx : x.head.size ≤ 2003) (hf : headO k s s.size 0 x = some (y, n)) :
  Calls Tryz.prog 61 #[.pointer (some ⟨b, 0, none⟩), .string s] w fun e w' => e = .returned (.int .i64 n) ∧ RdAt w0.heap.size b ok y out w' ∧ Below w0.heap.size w0 w' := by
 have HR0 := Lib.hid h
 have HB0 := Lib.hid hB
 have HG := Lib.hid hG
 have HS := Lib.hid hs
 have HX0 := Lib.hid hx
 have HF0 := Lib.hid hf
 have HOK := Lib.hid hok
 clear h hB hG hs hx hf hok
 go_enter Tryz.func61, Tryz.ntmps61
 go_wp2_with fail
 go_loopw [8] (fun v8 wr => ∃ (i : Nat) (xi : Rd), v8 = .int .i64 i ∧ Hid (i ≤ s.size) ∧ Hid (headO k s (s.size - i) i xi = some (y, n)) ∧ Hid (xi.head.size ≤ 2003) ∧ Hid (RdAt w0.heap.size b ok xi out wr) ∧ Hid (Below w0.heap.size w0 wr)) (fun v8 _ => s.size - (RowKit.intOf v8).toNat)
 case atStart => exact ⟨0, x, rfl, Lib.hid (Nat.zero_le _), HF0, HX0, HR0, HB0⟩
 case round =>
  obtain ⟨i, xi, rfl, HI, HF, HX, HR, HB⟩ := hrel
  clear HF0 HX0 HR0 HB0
  by_cases hi : i < s.size
  ·have hi' : decide (i < s.size) = true := decide_eq_true hi
   have hf := HF.out
   rw [show s.size - i = (s.size - i - 1) + 1 by omega, headO] at hf
   have HY := Lib.hid hf
   have HI2 : Hid (i < s.size) := Lib.hid hi
   obtain ⟨A, c, v, hv, H1, H2, H3⟩ := HR.out.cells
   have c2 := (blk_cell H1.out 2).trans rfl
   have hw : wrap64 ((i : Int) + 1) = ((i + 1 : Nat) : Int) := by have := HS.out; unfold wrap64; omega
   have hw2 : IntKind.i64.wrap ((i : Int) + 1) = ((i + 1 : Nat) : Int) := by rw [i64_w]; exact hw
   clear hw
   have p0 : (0 : Int) ≤ (i : Int) := by omega
   have p1 : (i : Int) ≤ (i : Int) + 1 := by omega
   have p2 : (i : Int) + 1 ≤ (s.size : Int) := by omega
   have es : (s.extract i (i + 1)).size = 1 := by rw [ByteArray.size_extract]; omega
   have za : (9223372036854775807 < xi.head.size + (s.extract i (i + 1)).size) = False := eq_false (by have := HX.out; omega)
   have za2 : (9223372036854775807 < xi.head.size + 1) = False := eq_false (by have := HX.out; omega)
   have za3 : (9223372036854775807 < xi.head.size + (min (i + 1) s.size - i)) = False := eq_false (by have := HX.out; omega)
   have hm : (xi.more s i).head.size = xi.head.size + 1 := by show (xi.head ++ s.extract i (i + 1)).size = _; rw [ByteArray.size_append, es]
   clear hf HF hi H2 H3 hv
   go_wp2_with fail
   go_still_tail 11, (by kernel_rfl)
   change wpList _ _ _ _ _ wr.drew
   have HR2 := Lib.hid (HR.out.below (below_drew (Below.refl _ _)))
   have HB2 := Lib.hid (below_drew1 HB.out)
   replace H1 := Aside0.mk (blk_drew H1.out)
   clear HR HB c2
   generalize wr.drew = w3 at H1 HR2 HB2 ⊢
   have g2 := (blk_cell H1.out 2).trans rfl
   have f2 := blk_frozen H1.out 2
   obtain ⟨x2, hx2⟩ : ∃ x2, x2 = xi.more s i := ⟨_, rfl⟩
   have e2 : xi.head ++ s.extract i (i + 1) = x2.head := by rw [hx2]; rfl
   rw [e2]
   rw [← hx2] at hm
   have HR3 : Hid (RdAt w0.heap.size b ok x2 out (w3.setCell ⟨b, 2, none⟩ (.string x2.head))) := Lib.hid (by rw [hx2]; exact HR2.out.head' _)
   have HB3 : Hid (Below w0.heap.size w0 (w3.setCell ⟨b, 2, none⟩ (.string x2.head))) := Lib.hid (HB2.out.setCell (p := ⟨b, 2, none⟩) HR2.out.1 _)
   have hy := HY.out
   rw [← hx2] at hy
   have ef : xi.fail 2 = x2.fail 2 := by rw [hx2]; rfl
   rw [ef] at hy
   have HY2 := Lib.hid hy
   have HM : Hid (x2.head.size ≤ 2004) := Lib.hid (by have := HX.out; omega)
   clear hy HY hm hx2 e2 ef za za2 za3 es p0 p1 p2
   go_upto_region 5 with (fail)
   generalize w3.setCell ⟨b, 2, none⟩ (.string x2.head) = w4 at HR3 HB3 ⊢
   clear H1 HR2 HB2 g2 f2
   obtain ⟨A4, k4, v4, hv4, H1, H2, H3⟩ := HR3.out.cells
   have c2 := (blk_cell H1.out 2).trans rfl
   clear H1 H2 H3 hv4
   have hy := HY2.out
   have hz : x2.head.size ≤ 9223372036854775807 := by have := HM.out; omega
   by_cases he : endsH x2.head = true
   ·rw [if_pos he] at hy
    obtain ⟨y1, hfr, hy⟩ := Option.bind_eq_some_iff.1 hy
    simp only [Option.some.injEq, Prod.mk.injEq] at hy
    obtain ⟨rfl, rfl⟩ := hy
    have KE := Lib.hid he
    have KZ := Lib.hid hz
    have K := Lib.hid (framed_any k b ok x2 y1 out w0 w4 HR3.out HOK.out HB3.out HG.out hz hfr)
    clear hfr HY2 he hz
    go_wp2_with (first
     | (go_at_call 42; refine (suffix_any _ _ _ KE.out KZ.out).mono ?_; rintro e w5 ⟨rfl, rfl⟩)
     | (go_at_call 86; refine K.out.mono ?_; rintro e w5 ⟨rfl, hr, hb⟩; have HR5 := Lib.hid hr; have HB5 := Lib.hid hb; clear hr hb))
    go_ret
    exact ⟨by first | rfl | simp, HR5.out, HB5.out⟩
   ·have hef : endsH x2.head = false := by simpa using he
    rw [if_neg he] at hy
    have KE := Lib.hid hef
    have KZ := Lib.hid hz
    by_cases hl : 2004 ≤ x2.head.size
    ·rw [if_pos hl] at hy
     simp only [Option.some.injEq, Prod.mk.injEq] at hy
     obtain ⟨rfl, rfl⟩ := hy
     have d1 : decide (2004 ≤ x2.head.size) = true := decide_eq_true hl
     have d2 : decide ((2004 : Int) ≤ (x2.head.size : Int)) = true := decide_eq_true (by omega)
     clear HY2 he hef hz hl
     go_wp2_with (first
      | (go_at_call 42; refine (suffix_any _ _ _ KE.out KZ.out).mono ?_; rintro e w5 ⟨rfl, rfl⟩)
      | (go_at_call 87; refine (fail_any b ok x2 out 2 w0 _ HR3.out HB3.out).mono ?_; rintro e w5 ⟨rfl, hr, hb⟩; have HR5 := Lib.hid hr; have HB5 := Lib.hid hb; clear hr hb))
     go_ret
     exact ⟨by first | rfl | simp, HR5.out, HB5.out⟩
    ·rw [if_neg hl] at hy
     have HN := Lib.hid hy
     have HL : Hid (x2.head.size ≤ 2003) := Lib.hid (by omega)
     have d1 : decide (2004 ≤ x2.head.size) = false := decide_eq_false hl
     have d2 : decide ((2004 : Int) ≤ (x2.head.size : Int)) = false := decide_eq_false (by omega)
     clear HY2 he hef hz hl hy
     go_wp2_with ((go_at_call 42; refine (suffix_any _ _ _ KE.out KZ.out).mono ?_; rintro e w5 ⟨rfl, rfl⟩))
     refine ⟨⟨i + 1, x2, by first | rfl | simp, Lib.hid (by have := HI2.out; omega), Lib.hid (by have := HN.out; rw [show s.size - i - 1 = s.size - (i + 1) by omega] at this; exact this), HL, HR3, HB3⟩, ?_⟩
     have := HI2.out
     simp only [RowKit.intOf]
     omega
  ·have hi' : decide (i < s.size) = false := decide_eq_false hi
   have hf := HF.out
   rw [show s.size - i = 0 by omega, headO] at hf
   simp only [Option.some.injEq, Prod.mk.injEq] at hf
   obtain ⟨rfl, rfl⟩ := hf
   clear HF hi
   go_wp2_with fail
   go_ret
   exact ⟨rfl, HR.out, HB.out⟩
end Go.Proofs.YtapeodbgobkjeaaGreatDoor.P
namespace Go.Proofs.YtapeodbgobkjeaaGreatDoor.P
open Go.RowKit Go.Shelf Go.Lib Go.Proofs.YtapeodbgobkjeaaGreatDoorW.PrintWords Go.Proofs.YtapeodbgobkjeaaGreatDoorW.PrintLast Go.Proofs.YtapeodbgobkjeaaGreatDoorW.PrintMore
set_option maxHeartbeats 1600000 in
set_option maxRecDepth 100000 in
theorem some_any (k b : Nat) (ok : Nat → Prop) (x y : Rd) (out : List S49) (s : ByteArray) (n : Nat) (w0 w : World) (h : RdAt w0.heap.size b ok x out w) (hok : ∀ k, w0.heap.size ≤ k → ok k) (hB : Below w0.heap.size w0 w) (hG : H.GlobOk w0) (hs : s.size ≤ 4611686018427387904) (hf : someO k s x = some (y, n)) :
  Calls Tryz.prog 38 #[.pointer (some ⟨b, 0, none⟩), .string s] w fun e w' => e = .returned (.int .i64 n) ∧ RdAt w0.heap.size b ok y out w' ∧ Below w0.heap.size w0 w' := by
 unfold someO at hf
 obtain ⟨A, c, v, hv, H1, H2, H3⟩ := h.cells
 have c3 : w.cell? ⟨b, 3, none⟩ = some (.int .i64 x.kind) := (blk_cell H1.out 3).trans rfl
 clear H1 H2 H3 hv
 by_cases k0 : x.kind = 0
 ·rw [if_pos k0] at hf
  split at hf
  case isFalse => cases hf
  case isTrue hx =>
  have K := Lib.hid (head_any k b ok x y out s n w0 w h hok hB hG hs hx hf)
  have d0 : (x.kind == 0) = true := beq_iff_eq.mpr k0
  clear h hok hB hG hs hf hx k0
  go_enter Tryz.func38, Tryz.ntmps38
  go_wp2_with ((go_at_call 61; refine K.out.mono ?_; rintro e w4 ⟨rfl, hr, hb⟩; have HR4 := Lib.hid hr; have HB4 := Lib.hid hb; clear hr hb))
  go_ret
  exact ⟨rfl, HR4.out, HB4.out⟩
 rw [if_neg k0] at hf
 have d0 : (x.kind == 0) = false := beq_eq_false_iff_ne.mpr k0
 by_cases k3 : x.kind = 3
 ·rw [if_pos k3] at hf
  have d3 : (x.kind == 3) = true := beq_iff_eq.mpr k3
  unfold chunkO at hf
  obtain ⟨⟨r1, r2, r3, r4, m, bb, e0⟩, hc, hf⟩ := Option.bind_eq_some_iff.1 hf
  dsimp only at hf
  by_cases he : e0 = 0
  ·rw [if_pos he] at hf
   subst he
   split at hf
   case isFalse => cases hf
   case isTrue hz =>
   simp only [Option.some.injEq, Prod.mk.injEq] at hf
   obtain ⟨rfl, rfl⟩ := hf
   have K := Lib.hid (chunked_ok k b ok x out s r1 r2 r3 r4 m bb w0 w h hB hc hz.1)
   have em : ((m.toNat : Nat) : Int) = m := by omega
   have EM := Lib.hid em
   clear h hok hB hG hs hc hz k0 k3 em
   go_enter Tryz.func38, Tryz.ntmps38
   go_wp2_with ((go_at_call 62; refine K.out.mono ?_; rintro e w4 ⟨rfl, hr, hb⟩; have HR4 := Lib.hid hr; have HB4 := Lib.hid hb; clear hr hb))
   go_ret
   exact ⟨by rw [EM.out]; rfl, HR4.out, HB4.out⟩
  ·rw [if_neg he] at hf
   simp only [Option.some.injEq, Prod.mk.injEq] at hf
   obtain ⟨rfl, rfl⟩ := hf
   have K := Lib.hid (chunked_err k b ok x out s r1 r2 r3 r4 m bb e0 w0 w h hB hc he)
   clear h hok hB hG hs hc he k0 k3
   go_enter Tryz.func38, Tryz.ntmps38
   go_wp2_with ((go_at_call 62; refine K.out.mono ?_; rintro e w4 ⟨rfl, hr, hb⟩; have HR4 := Lib.hid hr; have HB4 := Lib.hid hb; clear hr hb))
   go_ret
   exact ⟨rfl, HR4.out, HB4.out⟩
 ·rw [if_neg k3] at hf
  have d3 : (x.kind == 3) = false := beq_eq_false_iff_ne.mpr k3
  unfold plainO at hf
  split at hf
  case isFalse => cases hf
  case isTrue hz =>
  simp only [Option.some.injEq, Prod.mk.injEq] at hf
  obtain ⟨hy, rfl⟩ := hf
  have K0 := plain_any b ok x out s (plainN x s) w0 w h hB hs hz.1 hz.2 rfl
  rw [hy] at K0
  have K := Lib.hid K0
  clear hy K0
  clear h hok hB hG hs hz k0 k3
  go_enter Tryz.func38, Tryz.ntmps38
  go_wp2_with ((go_at_call 63; refine K.out.mono ?_; rintro e w4 ⟨rfl, hr, hb⟩; have HR4 := Lib.hid hr; have HB4 := Lib.hid hb; clear hr hb))
  go_ret
  exact ⟨rfl, HR4.out, HB4.out⟩
end Go.Proofs.YtapeodbgobkjeaaGreatDoor.P
