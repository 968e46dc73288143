/- The contract of chunk.Feed in the form of the printed ones. -/
import Derived.Test.YthemlbefkdmegaaDoorHX4
import Derived.Test.YthemlbefkdmegaaDoorPx2
import Derived.Lib.BufferRead
namespace Go.Proofs.YthemlbefkdmegaaDoor.H
open Go.RowKit Go.Shelf Go Go.Lib
/-- The text of a row of bytes that the call owns. -/
theorem run_text {B : Nat} {v : Value} {body : ByteArray} {W : World} (h : W.ownsRow B 5 1 v body.size (strCells body)) :
    (convert 26 9 v).run Tryd.prog W = .ok (.string body) W := by
  have hcs := fun g hg => World.ownsRow.cells h (g := g) hg
  obtain ⟨h1, h2⟩ := h
  rcases h2 with ⟨rfl, h0⟩ | ⟨g, cap, cur, rfl, hg, hh, hle, hm, hs, ht⟩
  · have e : body = ⟨#[]⟩ := H.ba_ext (by
      have : body.data.toList.length = 0 := by rw [← size_eq]; exact h0
      simpa using List.eq_nil_of_length_eq_zero this)
    subst e
    exact run_convert_nil_bytes W 26 9 5 0 Tryd.underlying26 Tryd.underlying5 Tryd.underlying9
  · refine Lib.run_convert_whole W 26 5 9 Tryd.underlying26 Tryd.underlying5 Tryd.underlying9 g 0 body ?_ cap
    intro i hi
    have hc := hcs g rfl i (.int .u8 (body[i].toNat : Int)) (by
      unfold strCells
      have hi' : i < body.data.toList.length := by rw [← size_eq]; exact hi
      rw [List.getElem?_map, List.getElem?_eq_getElem hi']
      rfl)
    rw [Nat.zero_add]
    have e : ((⟨g, 0, none⟩ : Addr).add i) = ⟨g, i, none⟩ := by unfold Addr.add; split <;> simp_all
    rw [e] at hc
    exact hc
end Go.Proofs.YthemlbefkdmegaaDoor.H
namespace Go.Proofs.YthemlbefkdmegaaDoor.P
open Go.RowKit Go.Shelf Go.Lib Go.Proofs.YthemlbefkdmegaaDoorW.PrintWords Go.Proofs.YthemlbefkdmegaaDoorW.PrintLast Go.Proofs.YthemlbefkdmegaaDoorW.PrintMore
open H (DecAt)
def chunk_Feed.l0 : Nat → ByteArray → Nat → Int → Int → ByteArray → Int → ByteArray → Option (Int × Int × Int × ByteArray × Int × Nat × ByteArray)
  | 0, _, _, _, _, _, _, _ => none
  | k + 1, s, i, st, left, line, many, body =>
    if i < s.size then
      if st = 4 then some (0, st, left, line, many, i, body)
      else if 0 ≤ many ∧ many ≤ 1000000 then
        if st = 1 then
          if 1 ≤ left ∧ left ≤ 1000000 ∧ body.size ≤ 140737487355328 then
            chunk_Feed.l0 k s (i + min (s.size - i) left.toNat) (if left.toNat - min (s.size - i) left.toNat = 0 then 2 else st) ((left.toNat - min (s.size - i) left.toNat : Nat) : Int) line (many + (min (s.size - i) left.toNat : Nat)) (body ++ (s.extract i s.size).extract 0 (min (s.size - i) left.toNat))
          else none
        else (chunk_one.f k st left line many (s.data.toList.getD i 0)).bind fun p =>
          if p.1 = 0 then chunk_Feed.l0 k s (i + 1) p.2.1 p.2.2.1 p.2.2.2 many body else some (p.1, st, left, line, many, i, body)
      else none
    else some (0, st, left, line, many, i, body)
def chunk_Feed.f (k : Nat) (a0_0 a0_1 : Int) (a0_2 : ByteArray) (a0_3 : Int) (a1 : ByteArray) : Option (Int × Int × ByteArray × Int × Int × ByteArray × Int) :=
  (chunk_Right.f k a0_0 a0_1 a0_2 a0_3).bind fun r =>
    if r = true then
      if a1.size ≤ 4611686018427387904 then
        (chunk_Feed.l0 k a1 0 a0_0 a0_1 a0_2 a0_3 ⟨#[]⟩).bind fun p =>
          if p.1 = 0 then some (p.2.1, p.2.2.1, p.2.2.2.1, p.2.2.2.2.1, (p.2.2.2.2.2.1 : Int), p.2.2.2.2.2.2, 0) else some (a0_0, a0_1, a0_2, a0_3, 0, ⟨#[]⟩, p.1)
      else none
    else some (a0_0, a0_1, a0_2, a0_3, 0, ⟨#[]⟩, 1)
theorem chunk_Feed.mono_l : ∀ (k : Nat) (s : ByteArray) (i : Nat) (st left : Int) (line : ByteArray) (many : Int) (body : ByteArray), LeO (chunk_Feed.l0 k s i st left line many body) (chunk_Feed.l0 (k + 1) s i st left line many body)
  | 0, _, _, _, _, _, _, _ => fun r h => by simp [chunk_Feed.l0] at h
  | k + 1, s, i, st, left, line, many, body => by
    have ih := chunk_Feed.mono_l k
    unfold chunk_Feed.l0
    exact .ite (.ite (.refl _) (.ite (.ite (.ite (ih _ _ _ _ _ _ _) (.refl _)) (.bind (chunk_one.mono _ _ _ _ _ _) fun p => .ite (ih _ _ _ _ _ _ _) (.refl _))) (.refl _))) (.refl _)
theorem chunk_Feed.mono (a0_0 a0_1 : Int) (a0_2 : ByteArray) (a0_3 : Int) (a1 : ByteArray) (k : Nat) : LeO (chunk_Feed.f k a0_0 a0_1 a0_2 a0_3 a1) (chunk_Feed.f (k + 1) a0_0 a0_1 a0_2 a0_3 a1) := by
  unfold chunk_Feed.f
  exact .bind (chunk_Right.mono _ _ _ _ _) fun r => .ite (.ite (.bind (chunk_Feed.mono_l _ _ _ _ _ _ _ _) fun p => .refl _) (.refl _)) (.refl _)
theorem two_laid (W : World) (o0 o1 : Obj) : ((W.alloc o0).alloc o1).heap[W.heap.size]? = some o0 ∧ ((W.alloc o0).alloc o1).heap[W.heap.size + 1]? = some o1 := by
  have e : ((W.alloc o0).alloc o1).heap = (W.heap.push o0).push o1 := rfl
  rw [e]
  refine ⟨?_, ?_⟩ <;> simp only [Array.getElem?_push, Array.size_push] <;> repeat (first | rw [if_pos trivial] | rw [if_neg (by omega)] | rw [if_pos (by omega)])
/-- The four results: the first lies in memory. -/
theorem feed_ret {R : Ending → World → Prop} (tmps : Array Value) (W : World) (g : Nat) (cs : Array Value) (v5 v6 v7 : Value) (hcs : cs.size = 4) (h4 : tmps.getD 4 undef = .pointer (some ⟨g, 0, none⟩)) (h5 : tmps.getD 5 undef = v5) (h6 : tmps.getD 6 undef = v6) (h7 : tmps.getD 7 undef = v7)
    (hg : W.heap[g]? = some (.cells cs 23 (0, 0))) (h : R (.returned (.tuple #[.agg cs, v5, v6, v7])) W) : bodyPost Tryd.prog Tryd.f15 R .ret ⟨tmps, []⟩ W := by
  subst h5 h6 h7
  exact bodyPost_ret (results_list (rs := [.cell 4 23, .tmp 5, .tmp 6, .tmp 7]) rfl (by simp) (.cell g 23 cs (0, 0) _ h4 hg Tryd.underlying23 rfl (by rw [hcs]; kernel_rfl) (.tmp (.tmp (.tmp .nil))))) rfl h
theorem four_put {W : World} {g : Nat} {x0 x1 x2 x3 : Value} (y0 y1 y2 y3 : Value) (h : W.heap[g]? = some (.cells #[x0, x1, x2, x3] 23 (0, 0))) :
    ((((W.setCell ⟨g, 0, none⟩ y0).setCell ⟨g, 1, none⟩ y1).setCell ⟨g, 2, none⟩ y2).setCell ⟨g, 3, none⟩ y3).heap[g]? = some (.cells #[y0, y1, y2, y3] 23 (0, 0)) :=
  blk_put (cs := #[y0, y1, y2, x3]) (blk_put (cs := #[y0, y1, x2, x3]) (blk_put (cs := #[y0, x1, x2, x3]) (blk_put h 0 y0 rfl) 1 y1 rfl) 2 y2 rfl) 3 y3 rfl
theorem four_below {B : Nat} {W0 W : World} {g : Nat} (y0 y1 y2 y3 : Value) (h : Below B W0 W) (hg : B ≤ g) :
    Below B W0 ((((W.setCell ⟨g, 0, none⟩ y0).setCell ⟨g, 1, none⟩ y1).setCell ⟨g, 2, none⟩ y2).setCell ⟨g, 3, none⟩ y3) :=
  (((h.setCell (p := ⟨g, 0, none⟩) hg y0).setCell (p := ⟨g, 1, none⟩) hg y1).setCell (p := ⟨g, 2, none⟩) hg y2).setCell (p := ⟨g, 3, none⟩) hg y3
set_option maxHeartbeats 3200000 in
set_option maxRecDepth 100000 in
theorem chunk_Feed.calls (k : Nat) (a0_0 a0_1 : Int) (a0_2 : ByteArray) (a0_3 : Int) (a1 : ByteArray) (r1 r2 : Int) (r3 : ByteArray) (r4 r5 : Int) (r6 : ByteArray) (r7 : Int) (w : World) (h : chunk_Feed.f k a0_0 a0_1 a0_2 a0_3 a1 = some (r1, r2, r3, r4, r5, r6, r7)) :
    Calls Tryd.prog 15 #[.agg #[.int .i64 a0_0, .int .i64 a0_1, .string a0_2, .int .i64 a0_3], .string a1] w fun e w' => e = .returned (.tuple #[.agg #[.int .i64 r1, .int .i64 r2, .string r3, .int .i64 r4], .int .i64 r5, .string r6, .int .i64 r7]) ∧ Below w.heap.size w w' := by
  unfold chunk_Feed.f at h
  obtain ⟨r, hR, h⟩ := Option.bind_eq_some_iff.1 h
  have HR := Lib.hid hR
  have H := Lib.hid h
  obtain ⟨bb, hbb⟩ : ∃ bb, bb = w.heap.size := ⟨_, rfl⟩
  clear hR h
  go_enter Tryd.func15, Tryd.ntmps15
  go_wp2_with fail
  obtain ⟨q0, q1⟩ := two_laid w (.cells #[.int .i64 a0_0, .int .i64 a0_1, .string a0_2, .int .i64 a0_3] 23) (.cells #[.int .i64 0, .int .i64 0, .string ⟨#[]⟩, .int .i64 0] 23)
  have hbW := below_alloc (below_alloc (Below.refl w.heap.size w) (.cells #[.int .i64 a0_0, .int .i64 a0_1, .string a0_2, .int .i64 a0_3] 23)) (.cells #[.int .i64 0, .int .i64 0, .string ⟨#[]⟩, .int .i64 0] 23)
  have hsz : ((w.alloc (.cells #[.int .i64 a0_0, .int .i64 a0_1, .string a0_2, .int .i64 a0_3] 23)).alloc (.cells #[.int .i64 0, .int .i64 0, .string ⟨#[]⟩, .int .i64 0] 23)).heap.size = bb + 2 := by rw [hbb]; simp
  obtain ⟨W0, hW0⟩ : ∃ W0, W0 = (w.alloc (.cells #[.int .i64 a0_0, .int .i64 a0_1, .string a0_2, .int .i64 a0_3] 23)).alloc (.cells #[.int .i64 0, .int .i64 0, .string ⟨#[]⟩, .int .i64 0] 23) := ⟨_, rfl⟩
  rw [← hW0] at q0 q1 hbW hsz ⊢
  refine (chunk_Right.calls k a0_0 a0_1 a0_2 a0_3 r W0 HR.out).mono ?_; rintro e w1 ⟨rfl, hB1⟩
  have HB1 := Lib.hid (hbW.trans (hB1.mono (by omega)))
  have hs1 := Nat.le_trans (Nat.le_of_eq hsz.symm) hB1.size
  rw [← hbb] at q0 q1
  have P0 := Lib.hid ((hB1.block bb (by omega)).trans q0)
  have P1 := Lib.hid ((hB1.block (bb + 1) (by omega)).trans q1)
  have HS1 := Lib.hid hs1
  have HBB := Lib.hid hbb
  simp only [← hbb]
  clear hW0 q0 q1 hbW hsz hB1 hs1 hbb h
  have c0 : w1.cell? ⟨bb, 0, none⟩ = some (.int .i64 a0_0) := by rw [cell_of_heap P0.out]; rfl
  have c1 : w1.cell? ⟨bb, 1, none⟩ = some (.int .i64 a0_1) := by rw [cell_of_heap P0.out]; rfl
  have c2 : w1.cell? ⟨bb, 2, none⟩ = some (.string a0_2) := by rw [cell_of_heap P0.out]; rfl
  have c3 : w1.cell? ⟨bb, 3, none⟩ = some (.int .i64 a0_3) := by rw [cell_of_heap P0.out]; rfl
  cases r with
  | false =>
    have h := H.out
    rw [if_neg (by decide)] at h
    simp only [Option.some.injEq, Prod.mk.injEq] at h
    obtain ⟨rfl, rfl, rfl, rfl, rfl, rfl, rfl⟩ := h
    have z0 : w1.cell? ⟨bb + 1, 0, none⟩ = some (.int .i64 0) := by rw [cell_of_heap P1.out]; rfl
    have z1 : w1.cell? ⟨bb + 1, 1, none⟩ = some (.int .i64 0) := by rw [cell_of_heap P1.out]; rfl
    have z2 : w1.cell? ⟨bb + 1, 2, none⟩ = some (.string ⟨#[]⟩) := by rw [cell_of_heap P1.out]; rfl
    have z3 : w1.cell? ⟨bb + 1, 3, none⟩ = some (.int .i64 0) := by rw [cell_of_heap P1.out]; rfl
    have f0 := frozen_of_heap P1.out 0
    have f1 := frozen_of_heap P1.out 1
    have f2 := frozen_of_heap P1.out 2
    have f3 := frozen_of_heap P1.out 3
    clear H
    go_wp2_with fail
    exact feed_ret _ _ (bb + 1) _ _ _ _ rfl rfl rfl rfl rfl (four_put _ _ _ _ P1.out) ⟨rfl, four_below _ _ _ _ HB1.out (by rw [HBB.out]; omega)⟩
  | true =>
    have h := H.out
    rw [if_pos rfl] at h
    split at h
    case isFalse => cases h
    case isTrue hs =>
    obtain ⟨⟨ee, st', left', line', many', n', body'⟩, hl, h⟩ := Option.bind_eq_some_iff.1 h
    have HL := Lib.hid hl
    have HE := Lib.hid h
    clear H hl h
    have hB2 : Below w.heap.size w (w1.alloc (.cells #[.int .i64 a0_0, .int .i64 a0_1, .string a0_2, .int .i64 a0_3, .slice none 0 0] 55)) := HB1.out.alloc HB1.out.size _
    have hD2 : DecAt (bb + 2) w1.heap.size a0_0 a0_1 a0_2 a0_3 ⟨#[]⟩ (w1.alloc (.cells #[.int .i64 a0_0, .int .i64 a0_1, .string a0_2, .int .i64 a0_3, .slice none 0 0] 55)) :=
      ⟨HS1.out, .slice none 0 0, heap_alloc_new w1 _, World.ownsRow_nil _ _ _ _, by simp [Value.ownBlock]⟩
    have P1W := Lib.hid ((Below.heap_alloc w1 (.cells #[.int .i64 a0_0, .int .i64 a0_1, .string a0_2, .int .i64 a0_3, .slice none 0 0] 55) (bb + 1) (by have := HS1.out; omega)).trans P1.out)
    have P0W := Lib.hid ((Below.heap_alloc w1 (.cells #[.int .i64 a0_0, .int .i64 a0_1, .string a0_2, .int .i64 a0_3, .slice none 0 0] 55) bb (by have := HS1.out; omega)).trans P0.out)
    have HB2 := Lib.hid hB2
    have HD2 := Lib.hid hD2
    have HS2 : Hid (w.heap.size ≤ bb + 2) := Lib.hid (by have := HBB.out; omega)
    have HSz := Lib.hid hs
    clear hB2 hD2 hs
    go_wp2_with fail
    obtain ⟨W2, hW2⟩ : ∃ W2, W2 = w1.alloc (.cells #[.int .i64 a0_0, .int .i64 a0_1, .string a0_2, .int .i64 a0_3, .slice none 0 0] 55) := ⟨_, rfl⟩
    rw [← hW2] at HB2 HD2 P1W P0W ⊢
    clear hW2 c0 c1 c2 c3
    go_loopw [9] (fun v9 wr => ∃ (kq i : Nat) (st left : Int) (line : ByteArray) (many : Int) (body : ByteArray), v9 = .int .i64 i ∧ Hid (chunk_Feed.l0 kq a1 i st left line many body = some (ee, st', left', line', many', n', body')) ∧ Hid (i ≤ a1.size) ∧ Hid (DecAt (bb + 2) w1.heap.size st left line many body wr) ∧ Hid (Below (bb + 2) W2 wr)) (fun v9 _ => a1.size - (RowKit.intOf v9).toNat)
    case atStart => exact ⟨k, 0, a0_0, a0_1, a0_2, a0_3, ⟨#[]⟩, rfl, HL, Lib.hid (Nat.zero_le _), HD2, Lib.hid (Below.refl _ _)⟩
    case round =>
      obtain ⟨kq, i, st, left, line, many, body, rfl, HLq, HI, HD, HR2⟩ := hrel
      have hl := HLq.out
      cases kq with
      | zero => simp [chunk_Feed.l0] at hl
      | succ kq =>
      unfold chunk_Feed.l0 at hl
      by_cases hi : i < a1.size
      · have hi' : decide ((i : Int) < (a1.size : Int)) = true := decide_eq_true (by omega)
        rw [if_pos hi] at hl
        by_cases h4 : st = 4
        · subst h4
          rw [if_pos rfl] at hl
          have hb := HR2.out
          obtain ⟨hBb, v, hk, hown, hne⟩ := HD.out
          obtain ⟨d0, d1, d2, d3, -⟩ := HD.out.cells
          have d4 : wr.cell? ⟨w1.heap.size, 4, none⟩ = some v := by rw [cell_of_heap hk]; rfl
          have P1r := Lib.hid ((hb.block (bb + 1) (by omega)).trans P1W.out)
          have z0 : wr.cell? ⟨bb + 1, 0, none⟩ = some (.int .i64 0) := by rw [cell_of_heap P1r.out]; rfl
          have z1 : wr.cell? ⟨bb + 1, 1, none⟩ = some (.int .i64 0) := by rw [cell_of_heap P1r.out]; rfl
          have z2 : wr.cell? ⟨bb + 1, 2, none⟩ = some (.string ⟨#[]⟩) := by rw [cell_of_heap P1r.out]; rfl
          have z3 : wr.cell? ⟨bb + 1, 3, none⟩ = some (.int .i64 0) := by rw [cell_of_heap P1r.out]; rfl
          have f0 := frozen_of_heap P1r.out 0
          have f1 := frozen_of_heap P1r.out 1
          have f2 := frozen_of_heap P1r.out 2
          have f3 := frozen_of_heap P1r.out 3
          have hcv := H.run_text (W := wr.drew) (v := v) (body := body) hown
          have hlt1 : bb + 1 < bb + 2 := by omega
          have hcv2 := H.run_text (W := (((((wr.setCell ⟨bb + 1, 0, none⟩ (.int .i64 4)).setCell ⟨bb + 1, 1, none⟩ (.int .i64 left)).setCell ⟨bb + 1, 2, none⟩ (.string line)).setCell ⟨bb + 1, 3, none⟩ (.int .i64 many))).drew) (v := v) (body := body)
            (ownsRow_setCell_below (ownsRow_setCell_below (ownsRow_setCell_below (ownsRow_setCell_below hown (a := ⟨bb + 1, 0, none⟩) hlt1 (.int .i64 4)) (a := ⟨bb + 1, 1, none⟩) hlt1 (.int .i64 left)) (a := ⟨bb + 1, 2, none⟩) hlt1 (.string line)) (a := ⟨bb + 1, 3, none⟩) hlt1 (.int .i64 many))
          have hne1 : ¬ (w1.heap.size = bb + 1) := by have := HS1.out; omega
          have hne2 : ¬ (bb + 1 = w1.heap.size) := by have := HS1.out; omega
          have HBr := Lib.hid (HB2.out.trans (hb.mono HS2.out))
          have he := HE.out
          simp only [Option.some.injEq, Prod.mk.injEq] at hl
          obtain ⟨rfl, rfl, rfl, rfl, rfl, rfl, rfl⟩ := hl
          rw [if_pos rfl] at he
          simp only [Option.some.injEq, Prod.mk.injEq] at he
          obtain ⟨rfl, rfl, rfl, rfl, rfl, rfl, rfl⟩ := he
          clear hb hBb hk hown hne HE hlt1
          go_wp2_with fail
          go_region
          go_wp2_with fail
          exact feed_ret _ _ (bb + 1) _ _ _ _ rfl rfl rfl rfl rfl (four_put _ _ _ _ P1r.out) ⟨rfl, (four_below _ _ _ _ HBr.out (by rw [HBB.out]; omega)).drew⟩
        · have d4 : (st != 4) = true := bne_iff_ne.mpr h4
          rw [if_neg h4] at hl
          split at hl
          case isFalse => cases hl
          case isTrue hmany =>
          split at hl
          case isTrue h1 =>
            subst h1
            split at hl
            case isFalse => cases hl
            case isTrue hleft =>
            obtain ⟨lf, rfl⟩ : ∃ lf : Nat, left = lf := ⟨left.toNat, by omega⟩
            rw [Int.toNat_natCast] at hl
            have hes : (a1.extract i a1.size).size = a1.size - i := by rw [ByteArray.size_extract]; omega
            obtain ⟨n, hn⟩ : ∃ n, n = min (a1.size - i) lf := ⟨_, rfl⟩
            have K := Lib.hid (chunk_take.calls (bb + 2) w1.heap.size 1 lf line many body (a1.extract i a1.size) wr HD.out (by have := HR2.out.size; have := HD.out.lt; have := HS1.out; omega) hmany (by omega) (by have := HSz.out; omega) hleft.2.2)
            rw [hes, ← hn] at K
            rw [← hn] at hl
            have HLn := Lib.hid hl
            obtain ⟨d0, d1, d2, d3, -⟩ := HD.out.cells
            have hw : wrap64 ((i : Int) + (n : Int)) = ((i + n : Nat) : Int) := by have := HSz.out; unfold wrap64; omega
            have HI2 : Hid (i < a1.size) := Lib.hid hi
            have HW := Lib.hid hw
            have HN : Hid (1 ≤ n ∧ n ≤ a1.size - i) := Lib.hid (by omega)
            clear hl hes hn hw hmany hleft h4 hi HLq
            go_upto_region 7 with (fail)
            have hi2 : (i : Int) ≤ (a1.size : Int) := by have := HI2.out; omega
            go_wp2_with fail
            refine K.out.mono ?_; rintro e w5 ⟨rfl, hd, hb⟩
            have HD5 := Lib.hid hd
            have HB5 := Lib.hid (HR2.out.trans hb)
            have hw := HW.out
            clear hd hb HD HR2 K
            go_wp2_with fail
            refine ⟨⟨kq, i + n, _, _, _, _, _, by rw [hw], HLn, Lib.hid (by have := HN.out; omega), HD5, HB5⟩, ?_⟩
            rw [hw]
            have := HN.out
            simp only [RowKit.intOf, Int.toNat_natCast]
            omega
          case isFalse h1 =>
            have dn1 : (st == 1) = false := beq_eq_false_iff_ne.mpr h1
            obtain ⟨⟨p1, p2, p3, p4⟩, hone, hl⟩ := Option.bind_eq_some_iff.1 hl
            obtain ⟨d0, d1, d2, d3, -⟩ := HD.out.cells
            have hi2 : (i : Int) < (a1.size : Int) := by omega
            have hc : a1.data.toList.getD i 0 = a1[i] := by
              have hi' : i < a1.data.toList.length := by rw [← size_eq]; exact hi
              rw [List.getD_eq_getElem?_getD, List.getElem?_eq_getElem hi', Option.getD_some]
              rfl
            rw [hc] at hone
            have HLn := Lib.hid hl
            have K := Lib.hid (chunk_one.calls kq (bb + 2) w1.heap.size st left line many body a1[i] p1 p2 p3 p4 wr HD.out (by have := HR2.out.size; have := HD.out.lt; have := HS1.out; omega) (by omega) hone)
            have hw : wrap64 ((i : Int) + 1) = ((i + 1 : Nat) : Int) := by have := HSz.out; unfold wrap64; omega
            have HW := Lib.hid hw
            have HI2 : Hid (i < a1.size) := Lib.hid hi
            clear hl hone hmany h4 h1 HLq hw hc
            go_wp2_with fail
            refine K.out.mono ?_; rintro e w5 ⟨rfl, hd, hb⟩
            have HB5 := Lib.hid (HR2.out.trans hb)
            have hln := HLn.out
            by_cases hp : p1 = 0
            · subst hp
              rw [if_pos rfl] at hln
              have HD5 := Lib.hid (hd rfl)
              have HLm := Lib.hid hln
              have hw := HW.out
              clear hd hb HD HR2 K hln
              go_wp2_with fail
              refine ⟨⟨kq, i + 1, _, _, _, _, _, by rw [hw], HLm, Lib.hid (by have := HI2.out; omega), HD5, HB5⟩, ?_⟩
              rw [hw]
              have := HI2.out
              simp only [RowKit.intOf, Int.toNat_natCast]
              omega
            · have dp : (p1 != 0) = true := bne_iff_ne.mpr hp
              rw [if_neg hp] at hln
              simp only [Option.some.injEq, Prod.mk.injEq] at hln
              obtain ⟨rfl, rfl, rfl, rfl, rfl, rfl, rfl⟩ := hln
              have he := HE.out
              rw [if_neg hp] at he
              simp only [Option.some.injEq, Prod.mk.injEq] at he
              obtain ⟨rfl, rfl, rfl, rfl, rfl, rfl, rfl⟩ := he
              have P0r := Lib.hid ((HB5.out.block bb (by omega)).trans P0W.out)
              have P1r := Lib.hid ((HB5.out.block (bb + 1) (by omega)).trans P1W.out)
              have HBr := Lib.hid (HB2.out.trans (HB5.out.mono HS2.out))
              have c0 : w5.cell? ⟨bb, 0, none⟩ = some (.int .i64 a0_0) := by rw [cell_of_heap P0r.out]; rfl
              have c1 : w5.cell? ⟨bb, 1, none⟩ = some (.int .i64 a0_1) := by rw [cell_of_heap P0r.out]; rfl
              have c2 : w5.cell? ⟨bb, 2, none⟩ = some (.string a0_2) := by rw [cell_of_heap P0r.out]; rfl
              have c3 : w5.cell? ⟨bb, 3, none⟩ = some (.int .i64 a0_3) := by rw [cell_of_heap P0r.out]; rfl
              have z0 : w5.cell? ⟨bb + 1, 0, none⟩ = some (.int .i64 0) := by rw [cell_of_heap P1r.out]; rfl
              have z1 : w5.cell? ⟨bb + 1, 1, none⟩ = some (.int .i64 0) := by rw [cell_of_heap P1r.out]; rfl
              have z2 : w5.cell? ⟨bb + 1, 2, none⟩ = some (.string ⟨#[]⟩) := by rw [cell_of_heap P1r.out]; rfl
              have z3 : w5.cell? ⟨bb + 1, 3, none⟩ = some (.int .i64 0) := by rw [cell_of_heap P1r.out]; rfl
              have f0 := frozen_of_heap P1r.out 0
              have f1 := frozen_of_heap P1r.out 1
              have f2 := frozen_of_heap P1r.out 2
              have f3 := frozen_of_heap P1r.out 3
              clear hd hb HD HR2 K hp HE HL HLn
              go_wp2_with fail
              exact feed_ret _ _ (bb + 1) _ _ _ _ rfl rfl rfl rfl rfl (four_put _ _ _ _ P1r.out) ⟨rfl, four_below _ _ _ _ HBr.out (by rw [HBB.out]; omega)⟩
      · have hi' : decide ((i : Int) < (a1.size : Int)) = false := decide_eq_false (by omega)
        rw [if_neg hi] at hl
        have hb := HR2.out
        obtain ⟨hBb, v, hk, hown, hne⟩ := HD.out
        obtain ⟨d0, d1, d2, d3, -⟩ := HD.out.cells
        have d4 : wr.cell? ⟨w1.heap.size, 4, none⟩ = some v := by rw [cell_of_heap hk]; rfl
        have P1r := Lib.hid ((hb.block (bb + 1) (by omega)).trans P1W.out)
        have z0 : wr.cell? ⟨bb + 1, 0, none⟩ = some (.int .i64 0) := by rw [cell_of_heap P1r.out]; rfl
        have z1 : wr.cell? ⟨bb + 1, 1, none⟩ = some (.int .i64 0) := by rw [cell_of_heap P1r.out]; rfl
        have z2 : wr.cell? ⟨bb + 1, 2, none⟩ = some (.string ⟨#[]⟩) := by rw [cell_of_heap P1r.out]; rfl
        have z3 : wr.cell? ⟨bb + 1, 3, none⟩ = some (.int .i64 0) := by rw [cell_of_heap P1r.out]; rfl
        have f0 := frozen_of_heap P1r.out 0
        have f1 := frozen_of_heap P1r.out 1
        have f2 := frozen_of_heap P1r.out 2
        have f3 := frozen_of_heap P1r.out 3
        have hcv := H.run_text (W := wr.drew) (v := v) (body := body) hown
        have hlt1 : bb + 1 < bb + 2 := by omega
        have hcv2 := H.run_text (W := (((((wr.setCell ⟨bb + 1, 0, none⟩ (.int .i64 st)).setCell ⟨bb + 1, 1, none⟩ (.int .i64 left)).setCell ⟨bb + 1, 2, none⟩ (.string line)).setCell ⟨bb + 1, 3, none⟩ (.int .i64 many))).drew) (v := v) (body := body)
          (ownsRow_setCell_below (ownsRow_setCell_below (ownsRow_setCell_below (ownsRow_setCell_below hown (a := ⟨bb + 1, 0, none⟩) hlt1 (.int .i64 st)) (a := ⟨bb + 1, 1, none⟩) hlt1 (.int .i64 left)) (a := ⟨bb + 1, 2, none⟩) hlt1 (.string line)) (a := ⟨bb + 1, 3, none⟩) hlt1 (.int .i64 many))
        have hne1 : ¬ (w1.heap.size = bb + 1) := by have := HS1.out; omega
        have hne2 : ¬ (bb + 1 = w1.heap.size) := by have := HS1.out; omega
        have HBr := Lib.hid (HB2.out.trans (hb.mono HS2.out))
        have he := HE.out
        simp only [Option.some.injEq, Prod.mk.injEq] at hl
        obtain ⟨rfl, rfl, rfl, rfl, rfl, rfl, rfl⟩ := hl
        rw [if_pos rfl] at he
        simp only [Option.some.injEq, Prod.mk.injEq] at he
        obtain ⟨rfl, rfl, rfl, rfl, rfl, rfl, rfl⟩ := he
        clear hb hBb hk hown hne HE hlt1
        go_wp2_with fail
        go_region
        go_wp2_with fail
        exact feed_ret _ _ (bb + 1) _ _ _ _ rfl rfl rfl rfl rfl (four_put _ _ _ _ P1r.out) ⟨rfl, (four_below _ _ _ _ HBr.out (by rw [HBB.out]; omega)).drew⟩
end Go.Proofs.YthemlbefkdmegaaDoor.P
