/- The contracts of what a decoder does at a byte of a line, and with bytes of a chunk. -/
import Derived.Test.YthemlbefkdmegaaDoorHX2
import Derived.Deep.RegionHeld3
import Derived.Deep.RegionWith
import Derived.Deep.QuietTactic
import Derived.BigQuiet
import Derived.Lib.SlBytesRow
namespace Go.Proofs.YthemlbefkdmegaaDoor.P
open Go.RowKit Go.Shelf Go.Lib Go.Proofs.YthemlbefkdmegaaDoorW.PrintWords Go.Proofs.YthemlbefkdmegaaDoorW.PrintLast Go.Proofs.YthemlbefkdmegaaDoorW.PrintMore
open H (DecAt)
def crlfB : ByteArray := ⟨#[13, 10]⟩
def endB (l : ByteArray) : Bool := Lib.hasSuffix l.data.toList [13, 10]
def cutB (l : ByteArray) : ByteArray := ⟨(Lib.trimSuffix l.data.toList [13, 10]).toArray⟩
def byteB (c : UInt8) : ByteArray := ⟨#[c]⟩
theorem run_byte (W : World) (b : Nat) (c : UInt8) (h : W.heap[b]? = some (.cells #[.int .u8 (c.toNat : Int)] 5 (0, 0))) :
    (convert 26 9 (.slice (some ⟨b, 0, none⟩) 1 1)).run Tryd.prog W = .ok (.string (byteB c)) W := by
  refine Lib.run_convert_whole W 26 5 9 Tryd.underlying26 Tryd.underlying5 Tryd.underlying9 b 0 (byteB c) ?_ 1
  intro i hi
  have hi1 : i < 1 := hi
  obtain rfl : i = 0 := by omega
  unfold World.cell?
  rw [h]
  rfl
/-- What a whole line comes to: an error, the state and what is left. -/
def chunk_line.f (k : Nat) (st left many : Int) (s : ByteArray) : Option (Int × Int × Int) :=
  if st = 0 then (chunk_size.f k many s).bind fun p => some (p.1, if p.2 = 0 then 3 else 1, if p.2 = 0 then left else p.2)
  else if st = 2 then (if s.toList = [] then some (0, 0, left) else some (23, 2, left))
  else if st = 3 then (if s.toList = [] then some (0, 4, left) else (field_Parse.f k s).bind fun p => some (if p.2.2 = 0 then 0 else 23, 3, left))
  else none
/-- What a byte of a line comes to. -/
def chunk_one.f (k : Nat) (st left : Int) (line : ByteArray) (many : Int) (c : UInt8) : Option (Int × Int × Int × ByteArray) :=
  if line.size ≤ 1000000 then
    if endB (line ++ byteB c) = true then (chunk_line.f k st left many (cutB (line ++ byteB c))).bind fun p => some (p.1, p.2.1, p.2.2, ⟨#[]⟩)
    else if ((line ++ byteB c).size : Int) > 200 then some (2, st, left, line ++ byteB c) else some (0, st, left, line ++ byteB c)
  else none
theorem chunk_line.mono (st left many : Int) (s : ByteArray) (k : Nat) : LeO (chunk_line.f k st left many s) (chunk_line.f (k + 1) st left many s) := by
  unfold chunk_line.f
  exact .ite (.bind (chunk_size.mono _ _ _) fun p => .refl _) (.ite (.refl _) (.ite (.ite (.refl _) (.bind (field_Parse.mono _ _) fun p => .refl _)) (.refl _)))
theorem chunk_one.mono (st left : Int) (line : ByteArray) (many : Int) (c : UInt8) (k : Nat) : LeO (chunk_one.f k st left line many c) (chunk_one.f (k + 1) st left line many c) := by
  unfold chunk_one.f
  exact .ite (.ite (.bind (chunk_line.mono _ _ _ _ _) fun p => .refl _) (.refl _)) (.refl _)
theorem empty_of {s : ByteArray} (h : s.toList = []) : s = ⟨#[]⟩ := H.ba_ext (by rw [ByteArray.toList_eq] at h; rw [h])
theorem gap_any (B b : Nat) (st left : Int) (line : ByteArray) (many : Int) (body s : ByteArray) (w : World) (h : DecAt B b st left line many body w) :
    Calls Tryd.prog 41 #[.pointer (some ⟨b, 0, none⟩), .string s] w fun e w' => e = .returned (.int .i64 (if s.toList = [] then 0 else 23)) ∧ DecAt B b (if s.toList = [] then 0 else st) left line many body w' ∧ Below B w w' := by
  by_cases hs : s.toList = []
  · rw [if_pos hs, if_pos hs, empty_of hs]
    exact chunk_gap_yes B b st left line many body w h
  · rw [if_neg hs, if_neg hs]
    refine (chunk_gap_no b s hs w).mono ?_
    rintro e w' ⟨rfl, rfl⟩
    exact ⟨rfl, h, Below.refl _ _⟩
theorem field_end_any (B b : Nat) (st left : Int) (line : ByteArray) (many : Int) (body s : ByteArray) (hs : s.toList = []) (w : World) (h : DecAt B b st left line many body w) :
    Calls Tryd.prog 42 #[.pointer (some ⟨b, 0, none⟩), .string s] w fun e w' => e = .returned (.int .i64 0) ∧ DecAt B b 4 left line many body w' ∧ Below B w w' := by
  rw [empty_of hs]
  exact chunk_field_end B b st left line many body w h
theorem line_calls (k B b : Nat) (st left : Int) (line : ByteArray) (many : Int) (body s : ByteArray) (p1 p2 p3 : Int) (hm : 0 ≤ many ∧ many ≤ 9223372036854775807) (h : chunk_line.f k st left many s = some (p1, p2, p3)) :
    (st = 0 ∧ (∀ W, DecAt B b st left line many body W → B ≤ W.heap.size → Calls Tryd.prog 40 #[.pointer (some ⟨b, 0, none⟩), .string s] W fun e w' => e = .returned (.int .i64 p1) ∧ (p1 = 0 → DecAt B b p2 p3 line many body w') ∧ Below B W w')) ∨
    (st = 2 ∧ (∀ W, DecAt B b st left line many body W → B ≤ W.heap.size → Calls Tryd.prog 41 #[.pointer (some ⟨b, 0, none⟩), .string s] W fun e w' => e = .returned (.int .i64 p1) ∧ (p1 = 0 → DecAt B b p2 p3 line many body w') ∧ Below B W w')) ∨
    (st = 3 ∧ (∀ W, DecAt B b st left line many body W → B ≤ W.heap.size → Calls Tryd.prog 42 #[.pointer (some ⟨b, 0, none⟩), .string s] W fun e w' => e = .returned (.int .i64 p1) ∧ (p1 = 0 → DecAt B b p2 p3 line many body w') ∧ Below B W w')) := by
  unfold chunk_line.f at h
  split at h
  case isTrue hs0 =>
    obtain ⟨⟨e0, n0⟩, hz, h3⟩ := Option.bind_eq_some_iff.1 h
    simp only [Option.some.injEq, Prod.mk.injEq] at h3
    obtain ⟨rfl, rfl, rfl⟩ := h3
    exact .inl ⟨hs0, fun W hd hb => chunk_size.calls k B b st left line many body s _ _ W hd hb hm hz⟩
  case isFalse hs0 =>
  split at h
  case isTrue hs0 =>
    refine .inr (.inl ⟨hs0, fun W hd hb => ?_⟩)
    refine (gap_any B b st left line many body s W hd).mono ?_
    rintro e w' ⟨rfl, h1, h2⟩
    split at h
    case isTrue hs => simp only [Option.some.injEq, Prod.mk.injEq] at h; obtain ⟨rfl, rfl, rfl⟩ := h; rw [if_pos hs] at h1 ⊢; exact ⟨rfl, fun _ => h1, h2⟩
    case isFalse hs => simp only [Option.some.injEq, Prod.mk.injEq] at h; obtain ⟨rfl, rfl, rfl⟩ := h; rw [if_neg hs] at h1 ⊢; exact ⟨rfl, fun e => absurd e (by decide), h2⟩
  case isFalse hs1 =>
  split at h
  case isTrue hs0 =>
    refine .inr (.inr ⟨hs0, fun W hd hb => ?_⟩)
    split at h
    case isTrue hs =>
      simp only [Option.some.injEq, Prod.mk.injEq] at h; obtain ⟨rfl, rfl, rfl⟩ := h
      refine (field_end_any B b st left line many body s hs W hd).mono ?_
      rintro e w' ⟨rfl, h1, h2⟩
      exact ⟨rfl, fun _ => h1, h2⟩
    case isFalse hs =>
      obtain ⟨⟨n, v, e0⟩, hz, h3⟩ := Option.bind_eq_some_iff.1 h
      simp only [Option.some.injEq, Prod.mk.injEq] at h3
      obtain ⟨rfl, rfl, rfl⟩ := h3
      refine (chunk_field_one k B b st left line many body s n v e0 hs W hd hb hz).mono ?_
      rintro e w' ⟨rfl, h1, h2⟩
      exact ⟨rfl, fun _ => by rw [← hs0]; exact h1, h2⟩
  case isFalse hs2 => cases h
theorem cut_any (L : ByteArray) (W : World) (h : L.size ≤ 9223372036854775807) :
    Calls Tryd.prog 31 #[.string L, .string ⟨#[13, 10]⟩] W fun e w' => e = .returned (.tuple #[.string (cutB L), .bool (endB L)]) ∧ w' = W := Tryd.strings_CutSuffix L ⟨#[13, 10]⟩ W h
set_option maxHeartbeats 3200000 in
set_option maxRecDepth 100000 in
theorem chunk_one.calls (k B b : Nat) (st left : Int) (line : ByteArray) (many : Int) (body : ByteArray) (c : UInt8) (e0 st' left' : Int) (line' : ByteArray) (w : World) (h : DecAt B b st left line many body w) (hB : B ≤ w.heap.size) (hm : 0 ≤ many ∧ many ≤ 9223372036854775807) (hp : chunk_one.f k st left line many c = some (e0, st', left', line')) :
    Calls Tryd.prog 24 #[.pointer (some ⟨b, 0, none⟩), .int .u8 (c.toNat : Int)] w fun e w' => e = .returned (.int .i64 e0) ∧ (e0 = 0 → DecAt B b st' left' line' many body w') ∧ Below B w w' := by
  unfold chunk_one.f at hp
  split at hp
  case isFalse => cases hp
  case isTrue hl =>
  have hbW : Below w.heap.size w ((w.alloc (.cells #[.int .u8 (c.toNat : Int)] 5)).drew) := (below_alloc (Below.refl _ _) _).drew
  have hD1 := h.below hbW
  obtain ⟨d0, d1, d2, d3, gz⟩ := hD1.cells
  have c2 := h.cells.2.2.1
  have g2 := gz 2
  have hone : (byteB c).size = 1 := rfl
  have hsum : line.size + (byteB c).size ≤ 9223372036854775807 := by omega
  have hsz : (line ++ byteB c).size ≤ 9223372036854775807 := by rw [ByteArray.size_append]; omega
  have HSZ := Lib.hid hsz
  have HD := Lib.hid (hD1.set2 (line ++ byteB c))
  have HB := Lib.hid hB
  have HBW := Lib.hid ((hbW.mono hB).setCell (p := ⟨b, 2, none⟩) h.1 (.string (line ++ byteB c)))
  have HP := Lib.hid hp
  have HM := Lib.hid hm
  have hcv := run_byte ((w.alloc (.cells #[.int .u8 (c.toNat : Int)] 5)).drew) w.heap.size c (heap_alloc_new w _)
  clear h hB gz hbW hD1 hp hm hl hone hsz
  go_enter Tryd.func24, Tryd.ntmps24
  go_wp2_with fail
  go_region
  obtain ⟨W, hW⟩ : ∃ W, W = ((w.alloc (.cells #[.int .u8 (c.toNat : Int)] 5)).setCell ⟨b, 2, none⟩ (.string (line ++ byteB c))).drew := ⟨_, rfl⟩
  rw [← hW]
  replace HD : Hid (DecAt B b st left (line ++ byteB c) many body W) := by rw [hW]; exact HD
  replace HBW : Hid (Below B w W) := by rw [hW]; exact HBW
  obtain ⟨L, hL⟩ : ∃ L, L = line ++ byteB c := ⟨_, rfl⟩
  simp only [← hL] at HD HSZ HP ⊢
  clear hW d0 d1 d2 d3 g2 c2 hcv hL hsum
  obtain ⟨d0, d1, d2, d3, gz⟩ := HD.out.cells
  have g2 := gz 2
  clear gz
  go_wp2_with fail
  refine (cut_any L W HSZ.out).mono ?_; rintro e W1 ⟨rfl, rfl⟩
  cases he : endB L with
  | false =>
    have hp := HP.out
    rw [he, if_neg (by decide)] at hp
    clear HP
    split at hp
    case isTrue h2 =>
      injection hp with hp; simp only [Prod.mk.injEq] at hp; obtain ⟨rfl, rfl, rfl, rfl⟩ := hp
      have q : decide ((L.size : Int) > 200) = true := decide_eq_true h2
      clear h2
      go_wp2_with fail
      go_ret
      exact ⟨rfl, fun e => absurd e (by decide), HBW.out⟩
    case isFalse h2 =>
      injection hp with hp; simp only [Prod.mk.injEq] at hp; obtain ⟨rfl, rfl, rfl, rfl⟩ := hp
      have q : decide ((L.size : Int) > 200) = false := decide_eq_false h2
      clear h2
      go_wp2_with fail
      go_ret
      exact ⟨rfl, HD.out, HBW.out⟩
  | true =>
    have hp := HP.out
    rw [he, if_pos rfl] at hp
    clear HP
    obtain ⟨⟨p1, p2, p3⟩, h1, h2⟩ := Option.bind_eq_some_iff.1 hp
    simp only [Option.some.injEq, Prod.mk.injEq] at h2
    obtain ⟨rfl, rfl, rfl, rfl⟩ := h2
    have HL := Lib.hid h1
    clear hp h1
    have HD2 := Lib.hid (HD.out.set2 ⟨#[]⟩)
    have HB2 := Lib.hid (HBW.out.setCell (p := ⟨b, 2, none⟩) HD.out.1 (.string ⟨#[]⟩))
    go_wp2_with fail
    obtain ⟨W2, hW2⟩ : ∃ W2, W2 = W1.setCell ⟨b, 2, none⟩ (.string ⟨#[]⟩) := ⟨_, rfl⟩
    rw [← hW2]
    rw [← hW2] at HD2 HB2
    clear hW2 HD HBW d0 d1 d2 d3 g2
    have hsz2 : w.heap.size ≤ W2.heap.size := HB2.out.size
    have HBs := Lib.hid (Nat.le_trans HB.out hsz2)
    have HDm := Lib.hid (HD2.out.below (below_alloc (Below.refl _ _) (.map linesM 3)))
    obtain ⟨d0, -, -, -, -⟩ := HD2.out.cells
    obtain ⟨m0, -, -, -, -⟩ := HDm.out.cells
    have hlast : (W2.alloc (.map linesM 3)).heap[W2.heap.size]? = some (.map linesM 3) := heap_alloc_new W2 _
    have hlast' : (W2.alloc (.map linesM 3)).drew.heap[W2.heap.size]? = some (.map linesM 3) := hlast
    clear hsz2
    rcases line_calls k B b st left ⟨#[]⟩ many body (cutB L) p1 p2 p3 HM.out HL.out with ⟨rfl, K⟩ | ⟨rfl, K⟩ | ⟨rfl, K⟩
    · have K1 := Lib.hid K
      have l1 := H.run_look (P := Tryd.prog) Tryd.underlying70 Tryd.underlying3 hlast (.int .i64 0) (.func (.func 40) #[] #[]) 0 rfl rfl
      have l2 := H.run_look (P := Tryd.prog) Tryd.underlying70 Tryd.underlying3 hlast' (.int .i64 0) (.func (.func 40) #[] #[]) 0 rfl rfl
      clear K HL hlast hlast'
      go_region_with (first | (go_at_call 32; refine (lines_any _).mono ?_; rintro e w' ⟨rfl, rfl⟩) | (go_at_call 40; refine (K1.out _ (HDm.out.below (Below.refl _ _).drew) (Nat.le_trans HBs.out (by simp))).mono ?_; rintro e w' ⟨rfl, hd, hb⟩))
      all_goals
        have HD3 := Lib.hid hd
        have HB3 := Lib.hid ((HB2.out.alloc HBs.out (.map linesM 3)).drew.trans hb)
        clear hd hb
        go_wp2_with fail
        go_ret
        exact ⟨rfl, HD3.out, HB3.out⟩
    · have K1 := Lib.hid K
      have l1 := H.run_look (P := Tryd.prog) Tryd.underlying70 Tryd.underlying3 hlast (.int .i64 2) (.func (.func 41) #[] #[]) 1 rfl rfl
      have l2 := H.run_look (P := Tryd.prog) Tryd.underlying70 Tryd.underlying3 hlast' (.int .i64 2) (.func (.func 41) #[] #[]) 1 rfl rfl
      clear K HL hlast hlast'
      go_region_with (first | (go_at_call 32; refine (lines_any _).mono ?_; rintro e w' ⟨rfl, rfl⟩) | (go_at_call 41; refine (K1.out _ (HDm.out.below (Below.refl _ _).drew) (Nat.le_trans HBs.out (by simp))).mono ?_; rintro e w' ⟨rfl, hd, hb⟩))
      all_goals
        have HD3 := Lib.hid hd
        have HB3 := Lib.hid ((HB2.out.alloc HBs.out (.map linesM 3)).drew.trans hb)
        clear hd hb
        go_wp2_with fail
        go_ret
        exact ⟨rfl, HD3.out, HB3.out⟩
    · have K1 := Lib.hid K
      have l1 := H.run_look (P := Tryd.prog) Tryd.underlying70 Tryd.underlying3 hlast (.int .i64 3) (.func (.func 42) #[] #[]) 2 rfl rfl
      have l2 := H.run_look (P := Tryd.prog) Tryd.underlying70 Tryd.underlying3 hlast' (.int .i64 3) (.func (.func 42) #[] #[]) 2 rfl rfl
      clear K HL hlast hlast'
      go_region_with (first | (go_at_call 32; refine (lines_any _).mono ?_; rintro e w' ⟨rfl, rfl⟩) | (go_at_call 42; refine (K1.out _ (HDm.out.below (Below.refl _ _).drew) (Nat.le_trans HBs.out (by simp))).mono ?_; rintro e w' ⟨rfl, hd, hb⟩))
      all_goals
        have HD3 := Lib.hid hd
        have HB3 := Lib.hid ((HB2.out.alloc HBs.out (.map linesM 3)).drew.trans hb)
        clear hd hb
        go_wp2_with fail
        go_ret
        exact ⟨rfl, HD3.out, HB3.out⟩
end Go.Proofs.YthemlbefkdmegaaDoor.P
