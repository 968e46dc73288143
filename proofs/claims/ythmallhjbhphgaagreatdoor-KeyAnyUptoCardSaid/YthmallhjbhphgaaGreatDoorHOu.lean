/- Arguments of a bounded bulk: the bulk of a part, of a slice's texts, of a message's method. -/
import Derived.Test.YthmallhjbhphgaaGreatDoorHO2
import Derived.Test.YthmallhjbhphgaaGreatDoorRows
set_option linter.unusedVariables false
set_option linter.unusedSimpArgs false
namespace Go.Proofs.YthmallhjbhphgaaGreatDoor.P
open Go.ChangeShapes Go.WideShapes Go.Deep Go.RowKit Go.Proofs.YthmallhjbhphgaaGreatDoorW.PrintWords Go.Proofs.YthmallhjbhphgaaGreatDoorW.PrintLast
section
variable {H : Type} {enc : TypeId × Value → H} {w : World} {base : Nat} {spare : Nat → Bool} {held : Bool}
theorem bulk_part {d : DataW H} {l : List (DataW H)} (h : d ∈ l) : Rows.uptoBulk d ≤ Rows.uptoBulkAll l := by
 induction l with
 | nil => cases h
 | cons x r ih =>
  simp only [Rows.uptoBulkAll]
  cases List.mem_cons.1 h with
  | inl e => subst e; omega
  | inr e => have := ih e; omega
theorem bulk_string (b : List UInt8) : b.length ≤ Rows.uptoBulk (DataW.lit (H := H) (.string b)) := by
 simp [Rows.uptoBulk]
theorem bulk_agg (l : List (DataW H)) : Rows.uptoBulkAll l ≤ Rows.uptoBulk (.agg l) := by
 simp [Rows.uptoBulk]
theorem bulk_slice (a b : List (DataW H)) : Rows.uptoBulkAll a ≤ Rows.uptoBulk (.slice a b) := by
 simp only [Rows.uptoBulk]
 omega
theorem open_texts_up {P : Program} {t e : TypeId} {a : Option Addr} {len cap : Nat} {d : DataW H} {p : List MemPlace} (ht : P.underlying t = some (.slice e)) (he : P.underlying e = some .string) (hc : P.cellsOf e = 1) (hb : P.bytesOf e = 16)
  (h : DataW.Trod enc P w base spare held t (.slice a len cap) d p) (hw : ∀ n ∈ d.weights P t, n ≤ reachBytes) :
  ∃ l : List ByteArray, l.length = len ∧ len ≤ cap ∧ Kd.C Kd.string w a l.length l ∧ l.length * 16 ≤ reachBytes ∧ (∀ s ∈ l, s.size ≤ reachBytes) ∧ ∀ s ∈ l, s.size ≤ Rows.uptoBulk d := by
 obtain ⟨fuel, hf⟩ := h
 rcases open_strings ht he hc hf with ⟨hcs, _⟩ | ⟨x, l, c, ss, hcs, _, hl, hm, hz, hx, hcell, _⟩
 ·simp [Value.cells] at hcs
  obtain ⟨rfl, rfl, rfl⟩ := hcs
  exact ⟨[], rfl, Nat.le_refl _, Kd.C_of_reads (d := ByteArray.empty) ⟨rfl, by simp, fun h => by simp at h⟩, by simp, by simp, by simp⟩
 ·simp [Value.cells] at hcs
  obtain ⟨rfl, rfl, rfl⟩ := hcs
  have hss : len ≤ ss.length := by rw [hz]; split <;> omega
  have hlen : (ss.take len).length = len := by rw [List.length_take]; omega
  have hd : d = .slice (strs (ss.take len)) (strs (ss.drop len)) := congrArg Prod.fst hx
  subst hd
  have hall : ∀ n ∈ ((strs (ss.take len) : List (DataW H)).length + (strs (ss.drop len) : List (DataW H)).length) * P.bytesOf e :: (DataW.weightsAll P e (strs (ss.take len) : List (DataW H)) ++ DataW.weightsAll P e (strs (ss.drop len) : List (DataW H))), n ≤ reachBytes := by
   intro n hn
   apply hw
   rw [DataW.weights, ht]
   exact hn
  refine ⟨ss.take len, hlen, hl, ?_, ?_, ?_, ?_⟩
  ·refine Kd.C_of_reads (d := ByteArray.empty) ⟨rfl, by rw [hlen]; exact Nat.le_trans hl (Nat.le_trans hm (by decide)), fun _ => ⟨x, rfl, fun j hj => ?_⟩⟩
   rw [hcell j (by omega)]
   rw [hlen] at hj
   rw [List.getD_eq_getElem?_getD, List.getD_eq_getElem?_getD, List.getElem?_take, if_pos hj]
  ·have := hall _ (List.mem_cons_self)
   rw [hb] at this
   simp only [strs, List.length_map] at this
   omega
  ·intro s hs
   have hm2 : s.data.toList.length ∈ DataW.weightsAll P e (strs (ss.take len) : List (DataW H)) := by
    refine weightsAll_mem (d := .lit (.string s.data.toList)) (by simp [DataW.weights]) ?_
    exact List.mem_map.2 ⟨s, hs, rfl⟩
   have := hall _ (List.mem_cons_of_mem _ (List.mem_append_left _ hm2))
   rw [data_length] at this
   exact this
  ·intro s hs
   have h1 : (DataW.lit (H := H) (.string s.data.toList)) ∈ (strs (ss.take len) : List (DataW H)) := List.mem_map.2 ⟨s, hs, rfl⟩
   have h2 := bulk_part h1
   have h3 := bulk_string (H := H) s.data.toList
   have h4 := bulk_slice (strs (ss.take len) : List (DataW H)) (strs (ss.drop len))
   rw [data_length] at h3
   omega
theorem up_head {fuel : Nat} {m : ByteArray} {cs : List Value} {x : DataW H × List MemPlace} (h : DataW.trod enc Tryz.prog w base spare held fuel 24 (.string m :: cs) = some x) : m.size ≤ Rows.uptoBulk x.1 := by
 obtain ⟨ys, n, _, rfl, hl, hyl, hf⟩ := DataW.trod_struct Tryz.underlying24 h
 have cS : Tryz.prog.cellsOf 9 = 1 := by kernel_rfl
 match ys, hyl with
 | y0 :: ys', _ =>
  have g0 : DataW.trod enc Tryz.prog w base spare held n 9 (((.string m :: cs : List Value).drop 0).take (Tryz.prog.cellsOf 9)) = some y0 := hf 0 _ rfl
  rw [cS] at g0
  obtain ⟨s0, e0, z0, _⟩ := DataW.trod_string Tryz.underlying9 g0
  have f0 : s0 = m := by simpa using e0.symm
  have k0 : y0 = (.lit (.string s0.data.toList), []) := by simpa using z0
  subst f0 k0
  have h1 := bulk_string (H := H) s0.data.toList
  have h2 := bulk_part (H := H) (d := .lit (.string s0.data.toList)) (l := ((.lit (.string s0.data.toList), []) :: ys' : List (DataW H × List MemPlace)).map (·.1)) (by simp)
  have h3 := bulk_agg (H := H) (((.lit (.string s0.data.toList), []) :: ys' : List (DataW H × List MemPlace)).map (·.1))
  rw [data_length] at h1
  exact Nat.le_trans h1 (Nat.le_trans h2 h3)
theorem up_msg {fuel : Nat} {m v1 v2 v3 v4 v5 v6 : _} {x : DataW H × List MemPlace} (h : DataW.trod enc Tryz.prog w base spare held fuel 26 [.string m, v1, v2, v3, v4, v5, v6] = some x) : m.size ≤ Rows.uptoBulk x.1 := by
 obtain ⟨ys, n, _, rfl, hl, hyl, hf⟩ := DataW.trod_struct Tryz.underlying26 h
 have cH : Tryz.prog.cellsOf 24 = 6 := by kernel_rfl
 match ys, hyl with
 | y0 :: ys', _ =>
  have g0 : DataW.trod enc Tryz.prog w base spare held n 24 ((([.string m, v1, v2, v3, v4, v5, v6] : List Value).drop 0).take (Tryz.prog.cellsOf 24)) = some y0 := hf 0 _ rfl
  rw [cH] at g0
  have g2 : DataW.trod enc Tryz.prog w base spare held n 24 (.string m :: [v1, v2, v3, v4, v5]) = some y0 := by simpa using g0
  have h1 := up_head g2
  have h2 := bulk_part (H := H) (d := y0.1) (l := (y0 :: ys').map (·.1)) (by simp)
  have h3 := bulk_agg (H := H) ((y0 :: ys').map (·.1))
  exact Nat.le_trans h1 (Nat.le_trans h2 h3)
end
end Go.Proofs.YthmallhjbhphgaaGreatDoor.P
