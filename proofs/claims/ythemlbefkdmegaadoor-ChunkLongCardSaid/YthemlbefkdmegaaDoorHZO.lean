/- Several parts together: Arguments opened: a slice of texts, and a slice of fields (two texts each), as the printed contracts read them, with their bounds; Arguments opened: chunks (a struct of numbers and a text), as the printed contracts read them. -/
import Derived.Test.YthemlbefkdmegaaDoorPx0
import Derived.Deep.Slices
import Derived.Deep.Fields
import Derived.ChangeSame
import Derived.SliceStrings
import Derived.SizedLaws
namespace Go.Proofs.YthemlbefkdmegaaDoor.P
open Go.ChangeShapes Go.WideShapes Go.Deep Go.RowKit Go.Proofs.YthemlbefkdmegaaDoorW.PrintWords Go.Proofs.YthemlbefkdmegaaDoorW.PrintLast
section
variable {H : Type} {enc : TypeId × Value → H} {P : Program} {w : World} {base : Nat} {spare : Nat → Bool} {held : Bool}
theorem weightsAll_mem {e : TypeId} {d : DataW H} {n : Nat} (hn : n ∈ d.weights P e) : ∀ {ds : List (DataW H)}, d ∈ ds → n ∈ DataW.weightsAll P e ds
  | [], h => by cases h
  | x :: r, h => by
    simp only [DataW.weightsAll, List.mem_append]
    rcases List.mem_cons.1 h with rfl | h
    · exact .inl hn
    · exact .inr (weightsAll_mem hn h)
theorem weights_bound {ts : List TypeId} {ds : List (DataW H)} (h : (DataW.weightsEach P ts ds).all (· ≤ reachBytes) = true) {j : Nat} {t : TypeId} {d : DataW H} (ht : ts[j]? = some t) (hd : ds[j]? = some d) : ∀ n ∈ d.weights P t, n ≤ reachBytes := fun n hn => by
  have := List.all_eq_true.1 h _ (DataW.weights_mem_each ht hd n hn)
  simpa using this
/-- A slice of texts that came in. -/
theorem open_texts {t e : TypeId} {a : Option Addr} {len cap : Nat} {d : DataW H} {p : List MemPlace} (ht : P.underlying t = some (.slice e)) (he : P.underlying e = some .string) (hc : P.cellsOf e = 1) (hb : P.bytesOf e = 16)
    (h : DataW.Trod enc P w base spare held t (.slice a len cap) d p) (hw : ∀ n ∈ d.weights P t, n ≤ reachBytes) :
    ∃ l : List ByteArray, l.length = len ∧ len ≤ cap ∧ Kd.C Kd.string w a l.length l ∧ l.length * 16 ≤ reachBytes ∧ ∀ s ∈ l, s.size ≤ reachBytes := by
  obtain ⟨fuel, hf⟩ := h
  rcases open_strings ht he hc hf with ⟨hcs, _⟩ | ⟨x, l, c, ss, hcs, _, hl, hm, hz, hx, hcell, _⟩
  · simp [Value.cells] at hcs
    obtain ⟨rfl, rfl, rfl⟩ := hcs
    exact ⟨[], rfl, Nat.le_refl _, Kd.C_of_reads (d := ByteArray.empty) ⟨rfl, by simp, fun h => by simp at h⟩, by simp, by simp⟩
  · simp [Value.cells] at hcs
    obtain ⟨rfl, rfl, rfl⟩ := hcs
    have hss : len ≤ ss.length := by rw [hz]; split <;> omega
    have hlen : (ss.take len).length = len := by rw [List.length_take]; omega
    have hd : d = .slice (strs (ss.take len)) (strs (ss.drop len)) := congrArg Prod.fst hx
    subst hd
    have hall : ∀ n ∈ ((strs (ss.take len) : List (DataW H)).length + (strs (ss.drop len) : List (DataW H)).length) * P.bytesOf e :: (DataW.weightsAll P e (strs (ss.take len) : List (DataW H)) ++ DataW.weightsAll P e (strs (ss.drop len) : List (DataW H))), n ≤ reachBytes := by
      intro n hn
      apply hw
      rw [DataW.weights, ht]
      exact hn
    refine ⟨ss.take len, hlen, hl, ?_, ?_, ?_⟩
    · refine Kd.C_of_reads (d := ByteArray.empty) ⟨rfl, by rw [hlen]; exact Nat.le_trans hl (Nat.le_trans hm (by decide)), fun _ => ⟨x, rfl, fun j hj => ?_⟩⟩
      rw [hcell j (by omega)]
      rw [hlen] at hj
      rw [List.getD_eq_getElem?_getD, List.getD_eq_getElem?_getD, List.getElem?_take, if_pos hj]
    · have := hall _ (List.mem_cons_self)
      rw [hb] at this
      simp only [strs, List.length_map] at this
      omega
    · intro s hs
      have hm2 : s.data.toList.length ∈ DataW.weightsAll P e (strs (ss.take len) : List (DataW H)) := by
        refine weightsAll_mem (d := .lit (.string s.data.toList)) (by simp [DataW.weights]) ?_
        exact List.mem_map.2 ⟨s, hs, rfl⟩
      have := hall _ (List.mem_cons_of_mem _ (List.mem_append_left _ hm2))
      rw [data_length] at this
      exact this
end
end Go.Proofs.YthemlbefkdmegaaDoor.P
namespace Go.Proofs.YthemlbefkdmegaaDoor.P
open Go.ChangeShapes Go.WideShapes Go.Deep Go.RowKit Go.Proofs.YthemlbefkdmegaaDoorW.PrintWords Go.Proofs.YthemlbefkdmegaaDoorW.PrintLast
section
variable {H : Type} {enc : TypeId × Value → H} {w : World} {base : Nat} {spare : Nat → Bool} {held : Bool}
structure ChunksIn (cs : List Value) (st left : Int) (line : ByteArray) (many : Int) : Prop where
  e : cs = [.int .i64 st, .int .i64 left, .string line, .int .i64 many]
set_option maxRecDepth 100000 in
theorem open_chunks {fuel : Nat} {cs : List Value} {x : DataW H × List MemPlace} (h : DataW.trod enc Tryd.prog w base spare held fuel 23 cs = some x) :
    ∃ st left line many, ChunksIn cs st left line many := by
  obtain ⟨ys, n, _, rfl, hl, hyl, hf⟩ := DataW.trod_struct Tryd.underlying23 h
  have cH : Tryd.prog.cellsOf 23 = 4 := by kernel_rfl
  have cS : Tryd.prog.cellsOf 9 = 1 := by kernel_rfl
  have cI : Tryd.prog.cellsOf 3 = 1 := by kernel_rfl
  rw [cH] at hl
  match cs, hl, ys, hyl with
  | [v0, v1, v2, v3], _, [y0, y1, y2, y3], _ =>
    have g0 : DataW.trod enc Tryd.prog w base spare held n 3 ((([v0, v1, v2, v3] : List Value).drop 0).take (Tryd.prog.cellsOf 3)) = some y0 := hf 0 _ rfl
    rw [cI] at g0
    have g1 : DataW.trod enc Tryd.prog w base spare held n 3 ((([v0, v1, v2, v3] : List Value).drop 1).take (Tryd.prog.cellsOf 3)) = some y1 := hf 1 _ rfl
    rw [cI] at g1
    have g2 : DataW.trod enc Tryd.prog w base spare held n 9 ((([v0, v1, v2, v3] : List Value).drop 2).take (Tryd.prog.cellsOf 9)) = some y2 := hf 2 _ rfl
    rw [cS] at g2
    have g3 : DataW.trod enc Tryd.prog w base spare held n 3 ((([v0, v1, v2, v3] : List Value).drop 3).take (Tryd.prog.cellsOf 3)) = some y3 := hf 3 _ rfl
    rw [cI] at g3
    obtain ⟨s0, e0, _, _⟩ := DataW.trod_int Tryd.underlying3 g0
    obtain ⟨s1, e1, _, _⟩ := DataW.trod_int Tryd.underlying3 g1
    obtain ⟨s2, e2, _, _⟩ := DataW.trod_string Tryd.underlying9 g2
    obtain ⟨s3, e3, _, _⟩ := DataW.trod_int Tryd.underlying3 g3
    have f0 : v0 = .int .i64 s0 := by simpa using e0
    have f1 : v1 = .int .i64 s1 := by simpa using e1
    have f2 : v2 = .string s2 := by simpa using e2
    have f3 : v3 = .int .i64 s3 := by simpa using e3
    subst f0 f1 f2 f3
    exact ⟨s0, s1, s2, s3, ⟨rfl⟩⟩
end
end Go.Proofs.YthemlbefkdmegaaDoor.P
