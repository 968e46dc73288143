/- Arguments opened: a slice of texts, and a slice of fields (two texts each), as the printed contracts read them, with their bounds. -/
import Derived.Test.YthmallhjbhphgaaGreatDoorPx0
import Derived.Deep.Slices
import Derived.Deep.Fields
import Derived.ChangeSame
import Derived.SliceStrings
import Derived.SizedLaws
set_option linter.unusedVariables false
set_option linter.unusedSimpArgs false
namespace Go.Proofs.YthmallhjbhphgaaGreatDoor.P
open Go.ChangeShapes Go.WideShapes Go.Deep Go.RowKit Go.Proofs.YthmallhjbhphgaaGreatDoorW.PrintWords Go.Proofs.YthmallhjbhphgaaGreatDoorW.PrintLast
section
variable {H : Type} {enc : TypeId × Value → H} {P : Program} {w : World} {base : Nat} {spare : Nat → Bool} {held : Bool}
theorem weightsAll_mem {e : TypeId} {d : DataW H} {n : Nat} (hn : n ∈ d.weights P e) : ∀ {ds : List (DataW H)}, d ∈ ds → n ∈ DataW.weightsAll P e ds
 | [], h => by cases h
 | x :: r, h => by
  simp only [DataW.weightsAll, List.mem_append]
  rcases List.mem_cons.1 h with rfl | h
  ·exact .inl hn
  ·exact .inr (weightsAll_mem hn h)
theorem weights_bound {ts : List TypeId} {ds : List (DataW H)} (h : (DataW.weightsEach P ts ds).all (· ≤ reachBytes) = true) {j : Nat} {t : TypeId} {d : DataW H} (ht : ts[j]? = some t) (hd : ds[j]? = some d) : ∀ n ∈ d.weights P t, n ≤ reachBytes := fun n hn => by
 have := List.all_eq_true.1 h _ (DataW.weights_mem_each ht hd n hn)
 simpa using this
theorem open_pairs {t e f0 f1 : TypeId} {n0 n1 : Field} {a : Option Addr} {len cap : Nat} {d : DataW H} {p : List MemPlace} (ht : P.underlying t = some (.slice e)) (he : P.underlying e = some (.struct #[n0, n1])) (h0 : n0.type = f0) (h1 : n1.type = f1)
  (hs0 : P.underlying f0 = some .string) (hs1 : P.underlying f1 = some .string) (hone : oneCellFields P #[n0, n1] = true) (hc : P.cellsOf e = 2) (hb : P.bytesOf e = 32)
  (h : DataW.Trod enc P w base spare held t (.slice a len cap) d p) (hw : ∀ n ∈ d.weights P t, n ≤ reachBytes) :
  ∃ l : List S37, l.length = len ∧ len ≤ cap ∧ Kd.C k37 w a l.length l ∧ l.length * 32 ≤ reachBytes ∧ ∀ s ∈ l, s.f0.size ≤ reachBytes ∧ s.f1.size ≤ reachBytes := by
 subst h0 h1
 obtain ⟨fuel, hf⟩ := h
 rcases open_slice ht hf with ⟨hcs, _⟩ | ⟨x, l, c, m, n, D, Pl, hcs, _, hl, hm, hmm, hx, hi⟩
 ·simp [Value.cells] at hcs
  obtain ⟨rfl, rfl, rfl⟩ := hcs
  exact ⟨[], rfl, Nat.le_refl _, ⟨rfl, by simp, fun h => by simp at h⟩, by simp, by simp⟩
 ·simp [Value.cells] at hcs
  obtain ⟨rfl, rfl, rfl⟩ := hcs
  have hd : d = .slice ((List.range len).map D) ((List.range (m - len)).map fun j => D (len + j)) := congrArg Prod.fst hx
  subst hd
  have hall : ∀ n ∈ (((List.range len).map D).length + ((List.range (m - len)).map fun j => D (len + j)).length) * P.bytesOf e :: (DataW.weightsAll P e ((List.range len).map D) ++ DataW.weightsAll P e ((List.range (m - len)).map fun j => D (len + j))), n ≤ reachBytes := by
   intro n hn
   apply hw
   rw [DataW.weights, ht]
   exact hn
  have each : ∀ i, i < len → ∃ s : S37, w.cell? (x.add (i * 2)) = some (.string s.f0) ∧ w.cell? (x.add (i * 2 + 1)) = some (.string s.f1) ∧ s.f0.size ≤ reachBytes ∧ s.f1.size ≤ reachBytes := by
   intro i him
   obtain ⟨cs', hcc, ht'⟩ := hi i (by rw [hmm]; split <;> omega)
   rw [hc] at hcc
   obtain ⟨ys, n', hn', hy, hlen, hyl, hfl⟩ := DataW.trod_struct he ht'
   obtain ⟨_, hcl, hat⟩ := World.cells?_some hcc
   simp only [Prod.mk.injEq] at hy
   obtain ⟨o0, q0⟩ := hone_of hone 0 n0 rfl
   obtain ⟨o1, q1⟩ := hone_of hone 1 n1 rfl
   match cs', hcl, ys, hyl with
   | [v0, v1], _, [y0, y1], _ =>
    have g0 := hfl 0 n0 rfl
    have g1 := hfl 1 n1 rfl
    rw [o0, q0] at g0
    rw [o1, q1] at g1
    obtain ⟨s0, e0, z0, _⟩ := DataW.trod_string hs0 g0
    obtain ⟨s1, e1, z1, _⟩ := DataW.trod_string hs1 g1
    simp at e0 e1
    subst e0 e1
    refine ⟨⟨s0, s1⟩, ?_, ?_, ?_⟩
    ·have := hat 0 (by simp)
     simpa [Go.Deep.add_add] using this
    ·have := hat 1 (by simp)
     simpa [Go.Deep.add_add] using this
    ·have hDi : D i = .agg [y0.1, y1.1] := by simpa using hy.1
     have hmem : ∀ n ∈ (D i).weights P e, n ≤ reachBytes := fun n hn => hall n (List.mem_cons_of_mem _ (List.mem_append_left _ (weightsAll_mem hn (List.mem_map.2 ⟨i, List.mem_range.2 him, rfl⟩))))
     have z0' : y0 = (.lit (.string s0.data.toList), []) := by simpa using z0
     have z1' : y1 = (.lit (.string s1.data.toList), []) := by simpa using z1
     rw [hDi, z0', z1', DataW.weights, he] at hmem
     simp only [List.map_cons, List.map_nil, DataW.weightsEach, DataW.weights, List.append_nil, List.mem_append, List.mem_cons, List.not_mem_nil, or_false] at hmem
     have b0 := hmem s0.data.toList.length (.inl rfl)
     have b1 := hmem s1.data.toList.length (.inr rfl)
     rw [data_length] at b0 b1
     exact ⟨b0, b1⟩
  let S : Nat → S37 := fun i => if h : i < len then (each i h).choose else z37
  have hS : ∀ i, (h : i < len) → S i = (each i h).choose := fun i h => by simp only [S]; rw [dif_pos h]
  have hsp : ∀ i, i < len → w.cell? (x.add (i * 2)) = some (.string (S i).f0) ∧ w.cell? (x.add (i * 2 + 1)) = some (.string (S i).f1) ∧ (S i).f0.size ≤ reachBytes ∧ (S i).f1.size ≤ reachBytes := fun i h => by
   rw [hS i h]
   exact (each i h).choose_spec
  have hlen : ((List.range len).map S).length = len := by simp
  refine ⟨(List.range len).map S, hlen, hl, ⟨rfl, by rw [hlen]; exact Nat.le_trans hl (Nat.le_trans hm (by decide)), fun _ => ⟨x, rfl, fun j q hj => ?_⟩⟩, ?_, ?_⟩
  ·obtain ⟨hjl, hq⟩ := List.getElem?_eq_some_iff.1 hj
   rw [hlen] at hjl
   simp at hq
   subst hq
   obtain ⟨c0, c1, _⟩ := hsp j hjl
   refine ⟨[.string (S j).f0, .string (S j).f1], rfl, k37_mk w (S j), fun i u hu => ?_⟩
   match i, hu with
   | 0, hu => simp at hu; subst hu; exact c0
   | 1, hu => simp at hu; subst hu; exact c1
   | i + 2, hu => simp at hu
  ·have := hall _ (List.mem_cons_self)
   rw [hb] at this
   simp only [List.length_map, List.length_range] at this
   rw [hlen]
   omega
  ·intro s hs
   obtain ⟨i, hi2, rfl⟩ := List.mem_map.1 hs
   exact (hsp i (List.mem_range.1 hi2)).2.2
end
end Go.Proofs.YthmallhjbhphgaaGreatDoor.P
