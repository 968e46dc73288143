/- The contract of what a decoder does with bytes of a chunk. -/
import Derived.Test.YthemlbefkdmegaaDoorHX3
import Derived.Deep.RegionLaw
import Derived.Lib.AppendStr
import Derived.Laws.IdiomStrings
namespace Go.Proofs.YthemlbefkdmegaaDoor.H
open Go.RowKit Go.Shelf Go Go.Lib
/-- An append of a text's bytes to a row of the call's own, at a step of a region that draws its order. -/
theorem step_append_str {P : Program} {w : World} {ops : Array Oper} {o : Oper} {a : Act} {K : Act → World → Prop} {Q : Exit → Act → World → Prop} {E : Prop} (hgd : o.guard = none) (sl x : Operand) (t u : TypeId)
    (ho : o.op = .call { callee := .builtin .append, args := #[sl, x], argTypes := #[t, u] })
    (base : Nat) (e : TypeId) (z : Value) (ht : P.underlying t = some (.slice e)) (hu : P.underlying u = some .string) (hinfo : (P.info? e).map (fun i => (i.zero, i.size, i.bytes)) = some (some z, 1, 1)) (hz : z = .int .u8 0)
    (v : Value) (n : Nat) (xs : List Value) (hs : a.eval sl = v) (hown : w.ownsRow base e 1 v n xs) (s : ByteArray) (hx : a.eval x = .string s)
    (hbytes : n + s.size ≤ 140737488355328) (hbase : base ≤ w.heap.size)
    (h : ∀ v' w', w'.ownsRow base e 1 v' (n + s.size) (xs ++ strCells s) → w.grownBy w' v.ownBlock → K (a.put o.dst v') w') : if Region.wanted o (yielded ops a.tmps) = true then Oper.wp P o a w K Q else E := by
  have hw : Region.wanted o (yielded ops a.tmps) = true := by simp [Region.wanted, hgd]
  rw [if_pos hw]
  obtain ⟨i, hi, hz0, hz1, hz2⟩ := info_parts hinfo
  subst hz
  obtain ⟨v', w', hr, h2, h3, _⟩ := run_append_own_string (P := P) w base t u o.type e i ht hu hi hz0 hz1 hz2 v n xs hown s (by unfold maxLen; omega) hbytes hbase
  unfold Oper.wp execOp
  simp only [ho, resolve, invoke, builtin, Sem.run_bind, Sem.run_pure, Result.andThen_ok, List.map_toArray, List.map_cons, List.map_nil, hs, hx, hr]
  exact h v' w' h2 h3
theorem slice_of {w : World} {B : Nat} {e : TypeId} {size n : Nat} {v : Value} {xs : List Value} (h : w.ownsRow B e size v n xs) : ∃ ao n' cap, v = .slice ao n' cap := by
  rcases h.2 with ⟨hv, _⟩ | ⟨g, cap, cur, hv, _⟩
  · exact ⟨_, _, _, hv⟩
  · exact ⟨_, _, _, hv⟩
theorem strCells_append (x y : ByteArray) : strCells (x ++ y) = strCells x ++ strCells y := by
  unfold strCells
  rw [ByteArray.data_append, Array.toList_append, List.map_append]
theorem DecAt.put {B b : Nat} {st left : Int} {line : ByteArray} {many : Int} {body x : ByteArray} {v v' : Value} {w : World} (hB : B ≤ b) (hb : w.heap[b]? = some (.cells #[.int .i64 st, .int .i64 left, .string line, .int .i64 many, v] 55 (0, 0)))
    (hown : w.ownsRow B 5 1 v' (body.size + x.size) (strCells body ++ strCells x)) : DecAt B b st left line many (body ++ x) (w.setCell ⟨b, 4, none⟩ v') := by
  have hne := ownBlock_ne hown hb (by decide)
  rw [← strCells_append, ← ByteArray.size_append] at hown
  refine ⟨hB, v', ?_, ?_, hne⟩
  · simp [World.setCell, Array.getElem?_modify, hb]
  · exact hown.kept (row := some b) ⟨rfl, rfl, rfl, by simp [World.setCell], fun k _ hk => Below.heap_setCell _ _ _ _ (fun e => hk (by simp [e]))⟩ (Or.inr hne)
end Go.Proofs.YthemlbefkdmegaaDoor.H
namespace Go.Proofs.YthemlbefkdmegaaDoor.P
open Go.RowKit Go.Shelf Go.Lib Go.Proofs.YthemlbefkdmegaaDoorW.PrintWords Go.Proofs.YthemlbefkdmegaaDoorW.PrintLast Go.Proofs.YthemlbefkdmegaaDoorW.PrintMore
open H (DecAt)
set_option maxHeartbeats 1600000 in
set_option maxRecDepth 100000 in
theorem chunk_take.calls (B b : Nat) (st : Int) (lf : Nat) (line : ByteArray) (many : Int) (body s : ByteArray) (w : World) (h : DecAt B b st lf line many body w) (hB : B ≤ w.heap.size) (hm : 0 ≤ many ∧ many ≤ 1000000) (hl : lf ≤ 1000000) (hs : s.size ≤ 9223372036854775807) (hb : body.size ≤ 140737487355328) :
    Calls Tryd.prog 23 #[.pointer (some ⟨b, 0, none⟩), .string s] w fun e w' => e = .returned (.int .i64 (min s.size lf : Nat)) ∧
      DecAt B b (if lf - min s.size lf = 0 then 2 else st) ((lf - min s.size lf : Nat) : Int) line (many + (min s.size lf : Nat)) (body ++ s.extract 0 (min s.size lf)) w' ∧ Below B w w' := by
  obtain ⟨c0, c1, c2, c3, fz⟩ := h.cells
  obtain ⟨n, hn⟩ : ∃ n, n = min s.size lf := ⟨_, rfl⟩
  rw [← hn]
  obtain ⟨sx, hsx⟩ : ∃ sx, sx = (if lf - n = 0 then (2 : Int) else st) := ⟨_, rfl⟩
  rw [← hsx]
  have hmin : min (s.size : Int) (lf : Int) = (n : Int) := by omega
  have hns : (n : Int) ≤ (s.size : Int) := by omega
  have hn0 : (0 : Int) ≤ (n : Int) := by omega
  obtain ⟨hBb, v, hk, hown, hne⟩ := h
  have c4 : w.cell? ⟨b, 4, none⟩ = some v := by rw [cell_of_heap hk]; rfl
  have hlt := World.block_lt_of_cell? _ _ c4
  have hxs : (s.extract 0 n).size = n := by rw [ByteArray.size_extract]; omega
  have hbytes : body.size + (s.extract 0 n).size ≤ 140737488355328 := by omega
  have HN := Lib.hid hn
  have HSX := Lib.hid hsx
  have HB := Lib.hid hB
  have HM := Lib.hid hm
  have HL := Lib.hid hl
  have HX := Lib.hid hxs
  have HY := Lib.hid hbytes
  have HK := Lib.hid hk
  have HO := Lib.hid hown
  have HE := Lib.hid hne
  have HLT := Lib.hid hlt
  have HBB := Lib.hid hBb
  clear hB fz hm hl hk hown hne hxs hbytes hn hb hlt hBb hsx
  go_enter Tryd.func23, Tryd.ntmps23
  go_wp2_with fail
  clear hmin
  go_region_law (refine H.step_append_str rfl (.tmp 18) (.tmp 21) 26 9 rfl B 5 _ Tryd.underlying26 Tryd.underlying9 (by kernel_rfl) rfl v body.size (strCells body) (by simp [Act.eval, Act.put]) HO.out (s.extract 0 n) (by simp [Act.eval, Act.put]) HY.out HB.out ?_; intro v' w' hown' hgrow; obtain ⟨ao, n', cap, rfl⟩ := H.slice_of hown'; have hk' := (hgrow.block b HLT.out (fun e => HE.out e.symm)).trans HK.out; have d4 : w'.cell? ⟨b, 4, none⟩ = some v := (by rw [cell_of_heap hk']; rfl); have f4 : w'.frozen? ⟨b, 4, none⟩ = false := frozen_of_heap hk' 4)
  have HD1 := Lib.hid (H.DecAt.put HBB.out hk' hown')
  have HB1 := Lib.hid (((Below.refl B w).drew.grown hgrow HB.out (fun k hk => (HO.out.lt k hk).1)).setCell (p := ⟨b, 4, none⟩) HBB.out (.slice ao n' cap))
  obtain ⟨W, hW⟩ : ∃ W, W = w'.setCell ⟨b, 4, none⟩ (.slice ao n' cap) := ⟨_, rfl⟩
  rw [← hW]
  rw [← hW] at HD1 HB1
  clear hW hk' hown' hgrow d4 f4 c0 c1 c2 c3 c4 HO HK HE
  have hn := HN.out
  have hm := HM.out
  have hl := HL.out
  have hw1 : wrap64 ((lf : Int) - (n : Int)) = ((lf - n : Nat) : Int) := by unfold wrap64; omega
  have hw2 : wrap64 (many + (n : Int)) = many + (n : Int) := by unfold wrap64; omega
  obtain ⟨x0, x1, x2, x3, xf⟩ := HD1.out.cells
  have HD2 := Lib.hid (HD1.out.set1 ((lf - n : Nat) : Int))
  obtain ⟨y0, y1, y2, y3, yf⟩ := HD2.out.cells
  have HD3 := Lib.hid (HD2.out.set3 (many + (n : Int)))
  obtain ⟨z0, z1, z2, z3, zf⟩ := HD3.out.cells
  have g1 := xf 1
  have g2 := yf 3
  have g3 := zf 0
  clear xf yf zf hn hm hl hns hn0
  by_cases hz : lf - n = 0
  · have d : (((lf - n : Nat) : Int) == 0) = true := by rw [hz]; rfl
    have hsx : sx = 2 := by rw [HSX.out, if_pos hz]
    subst hsx
    clear hz HSX
    go_wp2_with fail
    go_ret
    exact ⟨rfl, HD3.out.set0 2, ((HB1.out.setCell (p := ⟨b, 1, none⟩) HBB.out _).setCell (p := ⟨b, 3, none⟩) HBB.out _).setCell (p := ⟨b, 0, none⟩) HBB.out _⟩
  · have d : (((lf - n : Nat) : Int) == 0) = false := beq_eq_false_iff_ne.mpr (by omega)
    have hsx : sx = st := by rw [HSX.out, if_neg hz]
    subst hsx
    clear hz HSX
    go_wp2_with fail
    go_ret
    exact ⟨rfl, HD3.out, (HB1.out.setCell (p := ⟨b, 1, none⟩) HBB.out _).setCell (p := ⟨b, 3, none⟩) HBB.out _⟩
end Go.Proofs.YthemlbefkdmegaaDoor.P
