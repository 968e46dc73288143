/- Several parts together: The contract of target.plain in the form of the printed ones: escapes made alike, written into a builder; The contract of target.Normal in the form of the printed ones. -/
import Derived.Test.YthmallhjbhphgaaGreatDoorHZB
import Derived.Deep.RegionWith
import Derived.Test.YthmallhjbhphgaaGreatDoorPx3
import Derived.OwnWalk
set_option linter.unusedVariables false
set_option linter.unusedSimpArgs false
namespace Go.Proofs.YthmallhjbhphgaaGreatDoor.P
open Go.RowKit Go.Shelf Go.Lib Go.Proofs.YthmallhjbhphgaaGreatDoorW.PrintWords Go.Proofs.YthmallhjbhphgaaGreatDoorW.PrintLast Go.Proofs.YthmallhjbhphgaaGreatDoorW.PrintMore
def capsL : List UInt8 := [48, 49, 50, 51, 52, 53, 54, 55, 56, 57, 65, 66, 67, 68, 69, 70]
def escB (c : Nat) : ByteArray := ⟨#[37, capsL.getD (c / 16) 0, capsL.getD (c % 16) 0]⟩
def target_plain.l0 : Nat → ByteArray → ByteArray → Option (ByteArray × Bool)
 | 0, _, _ => none
 | k + 1, s, out => if out.size + s.size ≤ 100000000000000 then ((strings_Cut.f s (⟨#[37]⟩ : ByteArray)).bind fun t => (if t.1.size ≤ s.size ∧ t.2.1.size ≤ s.size then (if t.2.2 = true then ((target_escape.f k t.2.1).bind fun c => (if c = 0 then some ((⟨#[]⟩ : ByteArray), false) else (if (0 ≤ c ∧ c ≤ 255) ∧ 2 ≤ t.2.1.size then ((target_free.f c).bind fun fr => (if fr = true then target_plain.l0 k (t.2.1.extract 2 t.2.1.size) ((out ++ t.1) ++ (⟨#[UInt8.ofNat c.toNat]⟩ : ByteArray)) else target_plain.l0 k (t.2.1.extract 2 t.2.1.size) ((out ++ t.1) ++ escB c.toNat))) else none))) else ((target_may.f k (out ++ t.1)).bind fun m => some (out ++ t.1, m))) else none)) else none
def target_plain.f (k : Nat) (a0 : ByteArray) : Option (ByteArray × Bool) := target_plain.l0 k a0 ⟨#[]⟩
theorem target_plain.mono_l : ∀ (k : Nat) (s out : ByteArray), LeO (target_plain.l0 k s out) (target_plain.l0 (k + 1) s out)
 | 0, _, _ => fun r h => by simp [target_plain.l0] at h
 | k + 1, s, out => by
  have ih := target_plain.mono_l k
  unfold target_plain.l0
  exact .ite (.bind (.refl _) fun t => .ite (.ite (.bind (target_escape.mono _ _) fun c => .ite (.refl _) (.ite (.bind (.refl _) fun fr => .ite (ih _ _) (ih _ _)) (.refl _))) (.bind (target_may.mono _ _) fun m => .refl _)) (.refl _)) (.refl _)
theorem target_plain.mono (a0 : ByteArray) (k : Nat) : LeO (target_plain.f k a0) (target_plain.f (k + 1) a0) := target_plain.mono_l k a0 _
theorem and15 (u : UInt8) : bits BinOp.and IntKind.u8 (u.toNat : Int) 15 = ((u.toNat % 16 : Nat) : Int) := by
 have a : ((List.range 256).all fun n => decide (bits BinOp.and IntKind.u8 (n : Int) 15 = ((n % 16 : Nat) : Int))) = true := by kernel_rfl
 rw [List.all_eq_true] at a
 exact of_decide_eq_true (a u.toNat (List.mem_range.2 u.toNat_lt))
theorem caps_at (p : Nat) (h : p < 16) : (⟨#[48, 49, 50, 51, 52, 53, 54, 55, 56, 57, 65, 66, 67, 68, 69, 70]⟩ : ByteArray)[p]'h = capsL.getD p 0 := by
 have : ∀ p : Fin 16, (⟨#[48, 49, 50, 51, 52, 53, 54, 55, 56, 57, 65, 66, 67, 68, 69, 70]⟩ : ByteArray)[p.val]'p.isLt = capsL.getD p.val 0 := by decide
 exact this ⟨p, h⟩
theorem three_at (w : World) (x y : UInt8) : ∀ (j : Nat) (hj : j < [37, x, y].length), (w.alloc (.cells #[.int .u8 37, .int .u8 (x.toNat : Int), .int .u8 (y.toNat : Int)] 5)).drew.cell? ((⟨w.heap.size, 0, none⟩ : Addr).add j) = some (.int .u8 ([37, x, y][j].toNat : Int)) := by
 intro j hj
 have hb : (w.alloc (.cells #[.int .u8 37, .int .u8 (x.toNat : Int), .int .u8 (y.toNat : Int)] 5)).drew.heap[w.heap.size]? = some (.cells #[.int .u8 37, .int .u8 (x.toNat : Int), .int .u8 (y.toNat : Int)] 5 (0, 0)) := heap_alloc_new w _
 have e : (⟨w.heap.size, 0, none⟩ : Addr).add j = ⟨w.heap.size, j, none⟩ := by unfold Addr.add; split <;> simp_all
 rw [e]
 unfold World.cell?
 dsimp only
 rw [hb]
 have h3 : j = 0 ∨ j = 1 ∨ j = 2 := by simp at hj; omega
 rcases h3 with rfl | rfl | rfl <;> rfl
set_option maxHeartbeats 3200000 in
set_option maxRecDepth 100000 in
theorem target_plain.calls (k : Nat) (a0 : ByteArray) (r1 : ByteArray) (r2 : Bool) (w : World) (h : target_plain.f k a0 = some (r1, r2)) :
  Calls Tryz.prog 57 #[.string a0] w fun e w' => e = .returned (.tuple #[.string r1, .bool r2]) ∧ Below w.heap.size w w' := by
 unfold target_plain.f at h
 obtain ⟨bb, hbb⟩ : ∃ bb, bb = w.heap.size := ⟨_, rfl⟩
 have HL := Lib.hid h
 have HN := Lib.hid (H.BW.new w)
 have HB0 := Lib.hid (below_alloc (Below.refl w.heap.size w) (.cells #[.pointer none, .slice none 0 0] 72))
 clear h
 go_enter Tryz.func57, Tryz.ntmps57
 go_wp2_with fail
 obtain ⟨W1, hW1⟩ : ∃ W1, W1 = w.alloc (.cells #[.pointer none, .slice none 0 0] 72) := ⟨_, rfl⟩
 rw [← hW1] at HN HB0 ⊢
 rw [← hbb] at HN HB0
 simp only [← hbb]
 have HBB := Lib.hid hbb
 clear hW1 hbb
 go_loopw [0] (fun v wr => ∃ (kq : Nat) (s out : ByteArray), v = .string s ∧ Hid (target_plain.l0 kq s out = some (r1, r2)) ∧ Hid (H.BW bb out wr) ∧ Hid (Below bb w wr)) (fun v _ => H.strLen v)
 case atStart => exact ⟨k, a0, ⟨#[]⟩, rfl, HL, HN, HB0⟩
 case round =>
  obtain ⟨kq, s, out, rfl, hl, hB, hbl⟩ := hrel
  have h := hl.out
  cases kq with
  | zero => simp [target_plain.l0] at h
  | succ kq =>
  unfold target_plain.l0 at h
  split at h
  case isFalse => cases h
  case isTrue hsz =>
  obtain ⟨⟨t1, t2, t3⟩, hcut, h⟩ := Option.bind_eq_some_iff.1 h
  dsimp only at h
  split at h
  case isFalse => cases h
  case isTrue hts =>
  have KC := Lib.hid (strings_Cut.calls s (⟨#[37]⟩ : ByteArray) t1 t2 t3 wr hcut)
  have HS : Hid (out.size + s.size ≤ 100000000000000 ∧ t1.size ≤ s.size ∧ t2.size ≤ s.size) := Lib.hid ⟨hsz, hts.1, hts.2⟩
  have HH := Lib.hid h
  clear h hsz hts hcut
  go_wp2_with fail
  refine KC.out.mono ?_; rintro e w2 ⟨rfl, hd2⟩
  have HB2 := Lib.hid (H.BW.below hB.out hd2.below)
  have HBL2 := Lib.hid (hbl.out.trans (hd2.below.mono (by have := hbl.out.size; have := HBB.out; omega)))
  clear hd2 KC
  have KW := Lib.hid (H.BW.write HB2.out t1 (by have := HS.out; omega))
  go_wp2_with fail
  refine KW.out.mono ?_; rintro e w3 ⟨rfl, hB3, hb3, _⟩
  have HB3 := Lib.hid hB3
  have HBL3 := Lib.hid (HBL2.out.trans hb3)
  clear hB3 hb3 KW HB2
  have h := HH.out
  clear HH
  cases t3 with
  | false =>
   rw [if_neg (by decide)] at h
   obtain ⟨m, hm, h⟩ := Option.bind_eq_some_iff.1 h
   simp only [Option.some.injEq, Prod.mk.injEq] at h
   obtain ⟨h1, rfl⟩ := h
   have HM := Lib.hid hm
   have H1 := Lib.hid h1
   have K1 := Lib.hid (H.BW.text HB3.out)
   clear h1 hm
   go_wp2_with fail
   refine K1.out.mono ?_; rintro e w4 ⟨rfl, hB4, hb4, _⟩
   have HBL4 := Lib.hid (HBL3.out.trans hb4)
   have K2 := Lib.hid (H.BW.text hB4)
   clear hB4 hb4 K1
   go_wp2_with fail
   refine K2.out.mono ?_; rintro e w5 ⟨rfl, hB5, hb5, _⟩
   have HBL5 := Lib.hid (HBL4.out.trans hb5)
   have K3 := Lib.hid (target_may.calls kq (out ++ t1) m w5 HM.out)
   have hl5 : bb ≤ w5.heap.size := Nat.le_of_lt (H.BW.lt hB5)
   have HL5 := Lib.hid hl5
   clear hB5 hb5 K2 hl5
   go_wp2_with fail
   refine K3.out.mono ?_; rintro e w6 ⟨rfl, hd6⟩
   have HBL6 := Lib.hid (HBL5.out.trans (hd6.below.mono HL5.out))
   clear hd6 K3
   go_wp2_with fail
   go_ret2
   exact ⟨by rw [← H1.out]; rfl, by rw [← HBB.out]; exact HBL6.out⟩
  | true =>
   rw [if_pos rfl] at h
   obtain ⟨c, hc, h⟩ := Option.bind_eq_some_iff.1 h
   have KE := Lib.hid (target_escape.calls kq t2 c w3 hc)
   have HL3 := Lib.hid (Nat.le_of_lt (H.BW.lt HB3.out))
   have HH := Lib.hid h
   clear h hc
   go_wp2_with fail
   refine KE.out.mono ?_; rintro e w4 ⟨rfl, hd4⟩
   have HB4 := Lib.hid (H.BW.below HB3.out hd4.below)
   have HBL4 := Lib.hid (HBL3.out.trans (hd4.below.mono HL3.out))
   clear hd4 KE HL3
   have h := HH.out
   clear HH
   by_cases hc0 : c = 0
   ·rw [if_pos hc0] at h
    simp only [Option.some.injEq, Prod.mk.injEq] at h
    obtain ⟨rfl, rfl⟩ := h
    subst hc0
    go_wp2_with fail
    go_ret2
    exact ⟨rfl, by rw [← HBB.out]; exact HBL4.out⟩
   ·rw [if_neg hc0] at h
    have hdc : decide (c = 0) = false := decide_eq_false hc0
    split at h
    case isFalse => cases h
    case isTrue hcr =>
    obtain ⟨fr, hfr, h⟩ := Option.bind_eq_some_iff.1 h
    have KF := fun W => Lib.hid (target_free.calls c fr W hfr)
    have HH := Lib.hid h
    have HCR := Lib.hid hcr
    clear h hfr hcr
    go_wp2_with fail
    refine (KF w4).out.mono ?_; rintro e w5 ⟨rfl, hd5⟩
    have HB5 := Lib.hid (H.BW.below HB4.out hd5.below)
    have HBL5 := Lib.hid (HBL4.out.trans (hd5.below.mono (Nat.le_of_lt (H.BW.lt HB4.out))))
    clear hd5
    obtain ⟨u, hu⟩ : ∃ u : UInt8, c = (u.toNat : Int) := ⟨UInt8.ofNat c.toNat, by
     have := HCR.out.1
     rw [UInt8.toNat_ofNat']
     omega⟩
    subst hu
    have h := HH.out
    rw [Int.toNat_natCast, show UInt8.ofNat u.toNat = u by simp] at h
    clear HH KF
    cases fr with
    | true =>
     rw [if_pos rfl] at h
     have H2 := Lib.hid h
     have KW := Lib.hid (H.BW.byte HB5.out u (by have := HS.out; rw [ByteArray.size_append]; omega))
     have h2 : (2 : Int) ≤ (t2.size : Int) := by have := HCR.out.2; omega
     clear h
     go_wp2_with fail
     refine KW.out.mono ?_; rintro e w6 ⟨rfl, hB6, hb6, _⟩
     have HB6 := Lib.hid hB6
     have HBL6 := Lib.hid (HBL5.out.trans hb6)
     clear hB6 hb6 KW
     go_wp2_with fail
     exact ⟨⟨kq, _, _, rfl, H2, HB6, HBL6⟩, by have := HCR.out.2; have := HS.out; show (t2.extract 2 t2.size).size < s.size; rw [ByteArray.size_extract]; omega⟩
    | false =>
     rw [if_neg (by decide)] at h
     have H2 := Lib.hid h
     have h2 : (2 : Int) ≤ (t2.size : Int) := by have := HCR.out.2; omega
     clear h
     obtain ⟨x, hx⟩ : ∃ x : UInt8, x = capsL.getD (u.toNat / 16) 0 := ⟨_, rfl⟩
     obtain ⟨y, hy⟩ : ∃ y : UInt8, y = capsL.getD (u.toNat % 16) 0 := ⟨_, rfl⟩
     have ex : escB u.toNat = ⟨#[37, x, y]⟩ := by unfold escB; rw [hx, hy]
     rw [ex] at H2
     obtain ⟨p, hp⟩ : ∃ p : Nat, p = u.toNat / 16 := ⟨_, rfl⟩
     obtain ⟨q, hq⟩ : ∃ q : Nat, q = u.toNat % 16 := ⟨_, rfl⟩
     have hu8 := u.toNat_lt
     have hp1 : (u.toNat : Int) / 16 = (p : Int) := by omega
     have hq1 : bits BinOp.and IntKind.u8 (u.toNat : Int) 15 = (q : Int) := by rw [hq]; exact and15 u
     have hp2 : p < 16 := by omega
     have hq2 : q < 16 := by omega
     have hp3 : (0 : Int) ≤ (p : Int) := by omega
     have hq3 : (0 : Int) ≤ (q : Int) := by omega
     have hp4 : (p : Int) < 16 := by omega
     have hq4 : (q : Int) < 16 := by omega
     have hx2 : ∀ h : p < 16, (⟨#[48, 49, 50, 51, 52, 53, 54, 55, 56, 57, 65, 66, 67, 68, 69, 70]⟩ : ByteArray)[p]'h = x := fun h => by rw [hx, ← hp]; exact caps_at p h
     have hy2 : ∀ h : q < 16, (⟨#[48, 49, 50, 51, 52, 53, 54, 55, 56, 57, 65, 66, 67, 68, 69, 70]⟩ : ByteArray)[q]'h = y := fun h => by rw [hy, ← hq]; exact caps_at q h
     clear hx hy ex hp hq hu8
     have hcv : (convert 31 9 (.slice (some ⟨w5.heap.size, 0, none⟩) 3 3)).run Tryz.prog ((w5.alloc (.cells #[.int .u8 37, .int .u8 (x.toNat : Int), .int .u8 (y.toNat : Int)] 5)).drew) = .ok (.string ⟨#[37, x, y]⟩) ((w5.alloc (.cells #[.int .u8 37, .int .u8 (x.toNat : Int), .int .u8 (y.toNat : Int)] 5)).drew) :=
      run_convert_bytes_back _ 31 9 5 ⟨w5.heap.size, 0, none⟩ 3 [37, x, y] Tryz.underlying31 Tryz.underlying5 Tryz.underlying9 (three_at w5 x y)
     have HBX := Lib.hid (H.BW.below HB5.out (below_drew (below_alloc (Below.refl w5.heap.size w5) (.cells #[.int .u8 37, .int .u8 (x.toNat : Int), .int .u8 (y.toNat : Int)] 5))))
     have HBLX := Lib.hid (HBL5.out.trans ((below_drew (below_alloc (Below.refl w5.heap.size w5) (.cells #[.int .u8 37, .int .u8 (x.toNat : Int), .int .u8 (y.toNat : Int)] 5))).mono (Nat.le_of_lt (H.BW.lt HB5.out))))
     have KW := Lib.hid (H.BW.write HBX.out ⟨#[37, x, y]⟩ (by have := HS.out; have e : (⟨#[37, x, y]⟩ : ByteArray).size = 3 := rfl; rw [ByteArray.size_append]; omega))
     go_wp2_with fail
     go_region_with (first
      | (go_at_call 39; refine KW.out.mono ?_; rintro e w6 ⟨rfl, hB6, hb6, _⟩))
     all_goals
      have HB6 := Lib.hid hB6
      have HBL6 := Lib.hid (HBLX.out.trans hb6)
      clear hB6 hb6 KW
      go_wp2_with fail
      exact ⟨⟨kq, _, _, rfl, H2, HB6, HBL6⟩, by have := HCR.out.2; have := HS.out; show (t2.extract 2 t2.size).size < s.size; rw [ByteArray.size_extract]; omega⟩
end Go.Proofs.YthmallhjbhphgaaGreatDoor.P
namespace Go.Proofs.YthmallhjbhphgaaGreatDoor.P
open Go.RowKit Go.Shelf Go.Lib Go.Proofs.YthmallhjbhphgaaGreatDoorW.PrintWords Go.Proofs.YthmallhjbhphgaaGreatDoorW.PrintLast Go.Proofs.YthmallhjbhphgaaGreatDoorW.PrintMore
def target_Normal.l0 : Nat → List ByteArray → Nat → ByteArray → Option ByteArray
 | 0, _, _, _ => none
 | k + 1, v, i, out => if i < v.length then (if out.size + (v.getD i ByteArray.empty).size ≤ 100000000000000 then target_Normal.l0 k v (i + 1) (out ++ ((⟨#[47]⟩ : ByteArray) ++ (v.getD i ByteArray.empty))) else none) else some out
def queryAt (s : ByteArray) : Nat := if Lib.indexByte s.data.toList 63 < 0 then s.size else (Lib.indexByte s.data.toList 63).toNat
def target_Normal.f (k : Nat) (a0 : ByteArray) : Option (ByteArray × ByteArray × Int) :=
 if (a0.size : Int) > 200 then some ((⟨#[]⟩ : ByteArray), (⟨#[]⟩ : ByteArray), 2) else
  (target_plain.f k (a0.extract 0 (queryAt a0))).bind fun t => (if t.2 = true then (if Lib.hasPrefix t.1.data.toList [47] = true then ((target_may.f k (a0.extract (queryAt a0) a0.size)).bind fun q => (if q = true then ((target_kept.f t.1).bind fun ks => ((target_Normal.l0 k ks 0 (⟨#[]⟩ : ByteArray)).bind fun o => some (o, a0.extract (queryAt a0) a0.size, 0))) else some ((⟨#[]⟩ : ByteArray), (⟨#[]⟩ : ByteArray), 40))) else some ((⟨#[]⟩ : ByteArray), (⟨#[]⟩ : ByteArray), 40)) else some ((⟨#[]⟩ : ByteArray), (⟨#[]⟩ : ByteArray), 40))
def T (k : Nat) (a1 p : ByteArray) (ok : Bool) (r1 r2 : ByteArray) (r3 : Int) : Prop := (if ok = true then (if Lib.hasPrefix p.data.toList [47] = true then ((target_may.f k a1).bind fun q => (if q = true then ((target_kept.f p).bind fun ks => ((target_Normal.l0 k ks 0 (⟨#[]⟩ : ByteArray)).bind fun o => some (o, a1, (0 : Int)))) else some ((⟨#[]⟩ : ByteArray), (⟨#[]⟩ : ByteArray), 40))) else some ((⟨#[]⟩ : ByteArray), (⟨#[]⟩ : ByteArray), 40)) else some ((⟨#[]⟩ : ByteArray), (⟨#[]⟩ : ByteArray), 40)) = some (r1, r2, r3)
theorem target_Normal.mono_l : ∀ (k : Nat) (v : List ByteArray) (i : Nat) (out : ByteArray), LeO (target_Normal.l0 k v i out) (target_Normal.l0 (k + 1) v i out)
 | 0, _, _, _ => fun r h => by simp [target_Normal.l0] at h
 | k + 1, v, i, out => by
  have ih := target_Normal.mono_l k
  unfold target_Normal.l0
  exact .ite (.ite (ih _ _ _) (.refl _)) (.refl _)
theorem target_Normal.mono (a0 : ByteArray) (k : Nat) : LeO (target_Normal.f k a0) (target_Normal.f (k + 1) a0) := by
 unfold target_Normal.f
 exact .ite (.refl _) (.bind (target_plain.mono _ _) fun t => .ite (.ite (.bind (target_may.mono _ _) fun q => .ite (.bind (.refl _) fun ks => .bind (target_Normal.mono_l _ _ _ _) fun o => .refl _) (.refl _)) (.refl _)) (.refl _))
theorem queryAt_le (s : ByteArray) : queryAt s ≤ s.size := by
 unfold queryAt
 split
 ·exact Nat.le_refl _
 ·rename_i h
  rcases H.index_split s.data.toList 63 with ⟨h1, _⟩ | ⟨k, h1, h2, _⟩
  ·omega
  ·have : s.data.toList.length = s.size := by simp
   omega
set_option maxHeartbeats 3200000 in
set_option maxRecDepth 100000 in
theorem target_Normal.calls (k : Nat) (a0 : ByteArray) (r1 : ByteArray) (r2 : ByteArray) (r3 : Int) (w : World) (h : target_Normal.f k a0 = some (r1, r2, r3)) :
  Calls Tryz.prog 42 #[.string a0] w fun e w' => e = .returned (.tuple #[.string r1, .string r2, .int .i64 r3]) ∧ Below w.heap.size w w' := by
 unfold target_Normal.f at h
 split at h
 case isTrue c1 =>
  simp only [Option.some.injEq, Prod.mk.injEq] at h
  obtain ⟨rfl, rfl, rfl⟩ := h
  have d1 : decide ((a0.size : Int) > 200) = true := decide_eq_true c1
  clear c1
  go_enter Tryz.func42, Tryz.ntmps42
  go_wp2_with fail
  go_ret3
  exact ⟨rfl, Below.refl _ _⟩
 case isFalse c1 =>
 have d1 : decide ((a0.size : Int) > 200) = false := decide_eq_false c1
 obtain ⟨⟨p, ok⟩, hpl, h⟩ := Option.bind_eq_some_iff.1 h
 dsimp only at h
 have hm := queryAt_le a0
 have hix : (Lib.indexByte a0.data.toList 63 < 0 ∧ queryAt a0 = a0.size) ∨ (0 ≤ Lib.indexByte a0.data.toList 63 ∧ Lib.indexByte a0.data.toList 63 = (queryAt a0 : Int)) := by
  unfold queryAt
  split
  ·exact .inl ⟨by assumption, rfl⟩
  ·exact .inr ⟨by omega, by omega⟩
 obtain ⟨m, hmq⟩ : ∃ m, m = queryAt a0 := ⟨_, rfl⟩
 rw [← hmq] at h hpl hm hix
 have KI := Lib.hid (Tryz.strings_IndexByte a0 63 w)
 have KP := Lib.hid (target_plain.calls k (a0.extract 0 m) p ok w hpl)
 have hsz : a0.size ≤ 200 := by omega
 have HT : Hid (T k (a0.extract m a0.size) p ok r1 r2 r3) := Lib.hid h
 clear h hpl hmq c1
 obtain ⟨n, hn⟩ : ∃ n, n = Lib.indexByte a0.data.toList 63 := ⟨_, rfl⟩
 have e63 : (63 : Int).toNat.toUInt8 = 63 := rfl
 rw [e63, ← hn] at KI
 rw [← hn] at hix
 clear hn e63
 have hm1 : (m : Int) ≤ (a0.size : Int) := by omega
 have hm0 : (0 : Int) ≤ (m : Int) := by omega
 have hs0 : (0 : Int) ≤ (a0.size : Int) := by omega
 obtain ⟨bb, hbb⟩ : ∃ bb, bb = w.heap.size := ⟨_, rfl⟩
 have HBB := Lib.hid hbb
 clear hbb
 have ex0 : a0.extract 0 a0.size = a0 := H.ba_ext (by rw [extract_to_end, List.drop_zero])
 have ex1 : a0.extract a0.size a0.size = (⟨#[]⟩ : ByteArray) := H.ba_ext (by rw [extract_to_end, List.drop_of_length_le (by simp)])
 rcases hix with ⟨hn, rfl⟩ | ⟨hn, rfl⟩
 all_goals try rw [ex0] at KP
 all_goals try rw [ex1] at HT
 all_goals
  clear ex0 ex1
  go_enter Tryz.func42, Tryz.ntmps42
  go_wp2_with fail
  refine KI.out.mono ?_; rintro e w1 ⟨rfl, hw1⟩
  have hw1' := hw1.symm; subst hw1'; clear hw1
  go_wp2_with fail
  refine KP.out.mono ?_; rintro e w2 ⟨rfl, hb2⟩
  have HB2 := Lib.hid hb2
  clear hb2 KP KI
  cases ok with
  | false =>
   have h := HT.out
   unfold T at h
   rw [if_neg (by decide)] at h
   simp only [Option.some.injEq, Prod.mk.injEq] at h
   obtain ⟨rfl, rfl, rfl⟩ := h
   go_wp2_with fail
   go_ret3
   exact ⟨rfl, HB2.out⟩
  | true =>
   have h := HT.out
   unfold T at h
   rw [if_pos rfl] at h
   have KH := fun W => Lib.hid (Tryz.strings_HasPrefix p ⟨#[47]⟩ W)
   have e47 : (⟨#[47]⟩ : ByteArray).data.toList = [47] := rfl
   rw [e47] at KH
   have HH := Lib.hid h
   clear h e47 HT
   go_wp2_with fail
   refine (KH _).out.mono ?_; rintro e w3 ⟨rfl, hw3⟩
   have hw3' := hw3.symm; subst hw3'; clear hw3
   have h := HH.out
   clear HH KH
   split at h
   case isFalse hpf =>
    simp only [Option.some.injEq, Prod.mk.injEq] at h
    obtain ⟨rfl, rfl, rfl⟩ := h
    have hpf' := Bool.eq_false_iff.mpr hpf
    go_wp2_with fail
    go_ret3
    exact ⟨rfl, HB2.out⟩
   case isTrue hpf =>
   obtain ⟨q, hq, h⟩ := Option.bind_eq_some_iff.1 h
   have KM := Lib.hid (target_may.calls k _ q w2 hq)
   have HH := Lib.hid h
   clear h hq
   go_wp2_with fail
   refine KM.out.mono ?_; rintro e w3 ⟨rfl, hd3⟩
   have HB3 := Lib.hid (HB2.out.trans (hd3.below.mono HB2.out.size))
   clear hd3 KM
   have h := HH.out
   clear HH
   cases q with
   | false =>
    rw [if_neg (by decide)] at h
    simp only [Option.some.injEq, Prod.mk.injEq] at h
    obtain ⟨rfl, rfl, rfl⟩ := h
    go_wp2_with fail
    go_ret3
    exact ⟨rfl, HB3.out⟩
   | true =>
    rw [if_pos rfl] at h
    obtain ⟨ks, hks, h⟩ := Option.bind_eq_some_iff.1 h
    obtain ⟨o, ho, h⟩ := Option.bind_eq_some_iff.1 h
    simp only [Option.some.injEq, Prod.mk.injEq] at h
    obtain ⟨h1, h2, h3⟩ := h
    subst h3
    have H1 := Lib.hid h1
    have H2 := Lib.hid h2
    have HO := Lib.hid ho
    obtain ⟨b3, hb3⟩ : ∃ b3, b3 = w3.heap.size := ⟨_, rfl⟩
    have hnew := H.BW.new w3
    have KK := fun W => Lib.hid (target_kept.calls p ks W hks)
    have HNW := Lib.hid hnew
    have HB4 := Lib.hid (HB3.out.trans ((below_alloc (Below.refl w3.heap.size w3) (.cells #[.pointer none, .slice none 0 0] 72)).mono HB3.out.size))
    clear hks ho h1 h2 hnew
    go_wp2_with fail
    refine (KK _).out.mono ?_; rintro e w4 ⟨vk, rfl, hR4, hb4⟩
    obtain ⟨Ak, ck, rfl⟩ := Kd.R_slice hR4
    have hkl : ks.length ≤ 9223372036854775807 := by
     obtain ⟨_, _, hq⟩ := Kd.R_reads' hR4
     exact Kd.C_max hq
    have HKL := Lib.hid hkl
    have HN4 := Lib.hid (H.BW.below HNW.out hb4)
    have HB5 := Lib.hid (HB4.out.trans (hb4.mono (Nat.le_trans HB3.out.size (by simp))))
    rw [← hb3] at HN4
    obtain ⟨B0, hB0⟩ : ∃ B0, B0 = (w3.alloc (.cells #[.pointer none, .slice none 0 0] 72)).heap.size := ⟨_, rfl⟩
    rw [← hB0] at hR4
    have HR4 := Lib.hid hR4
    have hlb : w.heap.size ≤ b3 := by rw [hb3]; exact HB3.out.size
    have HLB := Lib.hid hlb
    clear hR4 hb4 KK HNW hkl hB0 hlb
    go_wp2_with fail
    simp only [← hb3]
    have HB3' := Lib.hid hb3
    clear hb3
    go_loopw [44] (fun q wr => ∃ (k2 j : Nat) (o2 : ByteArray), q = .int .i64 j ∧ j ≤ ks.length ∧ Hid (target_Normal.l0 k2 ks j o2 = some o) ∧ Hid (H.BW b3 o2 wr) ∧ Hid (Below w.heap.size w wr) ∧ Hid (Kd.string.R 9 wr B0 (fun _ => True) (.slice Ak ks.length ck) ks)) (fun q _ => ks.length - (RowKit.intOf q).toNat)
    case atStart => exact ⟨k, 0, _, rfl, Nat.zero_le _, HO, HN4, HB5, HR4⟩
    case round =>
     obtain ⟨k2, j, o2, rfl, hj, hl2, hB6, hbl6, hR6⟩ := hrel
     have h := hl2.out
     cases k2 with
     | zero => simp [target_Normal.l0] at h
     | succ k2 =>
     unfold target_Normal.l0 at h
     split at h
     case isFalse hs2 =>
      injection h with h
      subst h
      have K := Lib.hid (H.BW.text (H.BW.below hB6.out (below_drew (Below.refl wr.heap.size wr))))
      have HD := Lib.hid (hbl6.out.trans ((below_drew (Below.refl wr.heap.size wr)).mono hbl6.out.size))
      go_upto_region 15 with (fail)
      go_region_with (first
       | (go_at_call 41; refine K.out.mono ?_; rintro e w7 ⟨rfl, _, hb7, _⟩))
      all_goals
       have HB7 := Lib.hid (HD.out.trans (hb7.mono HLB.out))
       clear hb7
       go_wp2_with fail
       go_ret3
       exact ⟨by rw [← H1.out, ← H2.out]; rfl, HB7.out⟩
     case isTrue hs2 =>
      split at h
      case isFalse => cases h
      case isTrue hz2 =>
      obtain ⟨_, _, hC6⟩ := Kd.R_reads' hR6.out
      obtain ⟨ad6, hA6, hcell6⟩ := Kd.at_string hC6 (j : Int) (by omega) (by omega)
      subst hA6
      have hx6 : rdOf ByteArray.empty ks (j : Int) = ks.getD j ByteArray.empty := by simp [rdOf]
      rw [hx6, Int.toNat_natCast] at hcell6
      generalize ks.getD j ByteArray.empty = y at h hz2 hcell6
      have HH2 := Lib.hid h
      have s6 : 1 + y.size ≤ 9223372036854775807 := by omega
      have K := Lib.hid (H.BW.write hB6.out ((⟨#[47]⟩ : ByteArray) ++ y) (by have e : (⟨#[47]⟩ : ByteArray).size = 1 := rfl; rw [ByteArray.size_append]; omega))
      clear h hz2 hC6 hx6
      go_wp2_with fail
      refine K.out.mono ?_; rintro e w7 ⟨rfl, hB7, hb7, ho7⟩
      have HB7 := Lib.hid hB7
      have HBL7 := Lib.hid (hbl6.out.trans (hb7.mono HLB.out))
      have HR7 := Lib.hid (H.BW.row hB6.out ho7 hR6.out)
      clear hB7 hb7 ho7
      go_wp2_with fail
      rw [H.wrap_step (m := ks.length) hs2 HKL.out]
      exact ⟨⟨k2, j + 1, _, rfl, hs2, HH2, HB7, HBL7, HR7⟩, H.less_step hs2⟩
end Go.Proofs.YthmallhjbhphgaaGreatDoor.P
