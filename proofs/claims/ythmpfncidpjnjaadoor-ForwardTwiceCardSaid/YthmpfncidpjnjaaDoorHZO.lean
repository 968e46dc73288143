/- Several parts together: Arguments opened: a slice of texts, and a slice of fields (two texts each), as the printed contracts read them, with their bounds; Arguments opened: a head and a message (structs that hold a slice of fields), as the printed contracts read them, with their bounds. -/
import Derived.Test.YthmpfncidpjnjaaDoorPx0
import Derived.Deep.Slices
import Derived.Deep.Fields
import Derived.ChangeSame
import Derived.SliceStrings
import Derived.SizedLaws
namespace Go.Proofs.YthmpfncidpjnjaaDoor.P
open Go.ChangeShapes Go.WideShapes Go.Deep Go.RowKit Go.Proofs.YthmpfncidpjnjaaDoorW.PrintWords Go.Proofs.YthmpfncidpjnjaaDoorW.PrintLast
section
variable {H : Type} {enc : TypeId × Value → H} {P : Program} {w : World} {base : Nat} {spare : Nat → Bool} {held : Bool}
theorem weightsAll_mem {e : TypeId} {d : DataW H} {n : Nat} (hn : n ∈ d.weights P e) : ∀ {ds : List (DataW H)}, d ∈ ds → n ∈ DataW.weightsAll P e ds
  | [], h => by cases h
  | x :: r, h => by
    simp only [DataW.weightsAll, List.mem_append]
    rcases List.mem_cons.1 h with rfl | h
    · exact .inl hn
    · exact .inr (weightsAll_mem hn h)
theorem weights_bound {ts : List TypeId} {ds : List (DataW H)} (h : (DataW.weightsEach P ts ds).all (· ≤ reachBytes) = true) {j : Nat} {t : TypeId} {d : DataW H} (ht : ts[j]? = some t) (hd : ds[j]? = some d) : ∀ n ∈ d.weights P t, n ≤ reachBytes := fun n hn => by
  have := List.all_eq_true.1 h _ (DataW.weights_mem_each ht hd n hn)
  simpa using this
/-- A slice of texts that came in. -/
theorem open_texts {t e : TypeId} {a : Option Addr} {len cap : Nat} {d : DataW H} {p : List MemPlace} (ht : P.underlying t = some (.slice e)) (he : P.underlying e = some .string) (hc : P.cellsOf e = 1) (hb : P.bytesOf e = 16)
    (h : DataW.Trod enc P w base spare held t (.slice a len cap) d p) (hw : ∀ n ∈ d.weights P t, n ≤ reachBytes) :
    ∃ l : List ByteArray, l.length = len ∧ len ≤ cap ∧ Kd.C Kd.string w a l.length l ∧ l.length * 16 ≤ reachBytes ∧ ∀ s ∈ l, s.size ≤ reachBytes := by
  obtain ⟨fuel, hf⟩ := h
  rcases open_strings ht he hc hf with ⟨hcs, _⟩ | ⟨x, l, c, ss, hcs, _, hl, hm, hz, hx, hcell, _⟩
  · simp [Value.cells] at hcs
    obtain ⟨rfl, rfl, rfl⟩ := hcs
    exact ⟨[], rfl, Nat.le_refl _, Kd.C_of_reads (d := ByteArray.empty) ⟨rfl, by simp, fun h => by simp at h⟩, by simp, by simp⟩
  · simp [Value.cells] at hcs
    obtain ⟨rfl, rfl, rfl⟩ := hcs
    have hss : len ≤ ss.length := by rw [hz]; split <;> omega
    have hlen : (ss.take len).length = len := by rw [List.length_take]; omega
    have hd : d = .slice (strs (ss.take len)) (strs (ss.drop len)) := congrArg Prod.fst hx
    subst hd
    have hall : ∀ n ∈ ((strs (ss.take len) : List (DataW H)).length + (strs (ss.drop len) : List (DataW H)).length) * P.bytesOf e :: (DataW.weightsAll P e (strs (ss.take len) : List (DataW H)) ++ DataW.weightsAll P e (strs (ss.drop len) : List (DataW H))), n ≤ reachBytes := by
      intro n hn
      apply hw
      rw [DataW.weights, ht]
      exact hn
    refine ⟨ss.take len, hlen, hl, ?_, ?_, ?_⟩
    · refine Kd.C_of_reads (d := ByteArray.empty) ⟨rfl, by rw [hlen]; exact Nat.le_trans hl (Nat.le_trans hm (by decide)), fun _ => ⟨x, rfl, fun j hj => ?_⟩⟩
      rw [hcell j (by omega)]
      rw [hlen] at hj
      rw [List.getD_eq_getElem?_getD, List.getD_eq_getElem?_getD, List.getElem?_take, if_pos hj]
    · have := hall _ (List.mem_cons_self)
      rw [hb] at this
      simp only [strs, List.length_map] at this
      omega
    · intro s hs
      have hm2 : s.data.toList.length ∈ DataW.weightsAll P e (strs (ss.take len) : List (DataW H)) := by
        refine weightsAll_mem (d := .lit (.string s.data.toList)) (by simp [DataW.weights]) ?_
        exact List.mem_map.2 ⟨s, hs, rfl⟩
      have := hall _ (List.mem_cons_of_mem _ (List.mem_append_left _ hm2))
      rw [data_length] at this
      exact this
/-- A slice of fields that came in. -/
theorem open_pairs {t e f0 f1 : TypeId} {n0 n1 : Field} {a : Option Addr} {len cap : Nat} {d : DataW H} {p : List MemPlace} (ht : P.underlying t = some (.slice e)) (he : P.underlying e = some (.struct #[n0, n1])) (h0 : n0.type = f0) (h1 : n1.type = f1)
    (hs0 : P.underlying f0 = some .string) (hs1 : P.underlying f1 = some .string) (hone : oneCellFields P #[n0, n1] = true) (hc : P.cellsOf e = 2) (hb : P.bytesOf e = 32)
    (h : DataW.Trod enc P w base spare held t (.slice a len cap) d p) (hw : ∀ n ∈ d.weights P t, n ≤ reachBytes) :
    ∃ l : List S28, l.length = len ∧ len ≤ cap ∧ Kd.C k28 w a l.length l ∧ l.length * 32 ≤ reachBytes ∧ ∀ s ∈ l, s.f0.size ≤ reachBytes ∧ s.f1.size ≤ reachBytes := by
  subst h0 h1
  obtain ⟨fuel, hf⟩ := h
  rcases open_slice ht hf with ⟨hcs, _⟩ | ⟨x, l, c, m, n, D, Pl, hcs, _, hl, hm, hmm, hx, hi⟩
  · simp [Value.cells] at hcs
    obtain ⟨rfl, rfl, rfl⟩ := hcs
    exact ⟨[], rfl, Nat.le_refl _, ⟨rfl, by simp, fun h => by simp at h⟩, by simp, by simp⟩
  · simp [Value.cells] at hcs
    obtain ⟨rfl, rfl, rfl⟩ := hcs
    have hd : d = .slice ((List.range len).map D) ((List.range (m - len)).map fun j => D (len + j)) := congrArg Prod.fst hx
    subst hd
    have hall : ∀ n ∈ (((List.range len).map D).length + ((List.range (m - len)).map fun j => D (len + j)).length) * P.bytesOf e :: (DataW.weightsAll P e ((List.range len).map D) ++ DataW.weightsAll P e ((List.range (m - len)).map fun j => D (len + j))), n ≤ reachBytes := by
      intro n hn
      apply hw
      rw [DataW.weights, ht]
      exact hn
    have each : ∀ i, i < len → ∃ s : S28, w.cell? (x.add (i * 2)) = some (.string s.f0) ∧ w.cell? (x.add (i * 2 + 1)) = some (.string s.f1) ∧ s.f0.size ≤ reachBytes ∧ s.f1.size ≤ reachBytes := by
      intro i him
      obtain ⟨cs', hcc, ht'⟩ := hi i (by rw [hmm]; split <;> omega)
      rw [hc] at hcc
      obtain ⟨ys, n', hn', hy, hlen, hyl, hfl⟩ := DataW.trod_struct he ht'
      obtain ⟨_, hcl, hat⟩ := World.cells?_some hcc
      simp only [Prod.mk.injEq] at hy
      obtain ⟨o0, q0⟩ := hone_of hone 0 n0 rfl
      obtain ⟨o1, q1⟩ := hone_of hone 1 n1 rfl
      match cs', hcl, ys, hyl with
      | [v0, v1], _, [y0, y1], _ =>
        have g0 := hfl 0 n0 rfl
        have g1 := hfl 1 n1 rfl
        rw [o0, q0] at g0
        rw [o1, q1] at g1
        obtain ⟨s0, e0, z0, _⟩ := DataW.trod_string hs0 g0
        obtain ⟨s1, e1, z1, _⟩ := DataW.trod_string hs1 g1
        simp at e0 e1
        subst e0 e1
        refine ⟨⟨s0, s1⟩, ?_, ?_, ?_⟩
        · have := hat 0 (by simp)
          simpa [Go.Deep.add_add] using this
        · have := hat 1 (by simp)
          simpa [Go.Deep.add_add] using this
        · have hDi : D i = .agg [y0.1, y1.1] := by simpa using hy.1
          have hmem : ∀ n ∈ (D i).weights P e, n ≤ reachBytes := fun n hn => hall n (List.mem_cons_of_mem _ (List.mem_append_left _ (weightsAll_mem hn (List.mem_map.2 ⟨i, List.mem_range.2 him, rfl⟩))))
          have z0' : y0 = (.lit (.string s0.data.toList), []) := by simpa using z0
          have z1' : y1 = (.lit (.string s1.data.toList), []) := by simpa using z1
          rw [hDi, z0', z1', DataW.weights, he] at hmem
          simp only [List.map_cons, List.map_nil, DataW.weightsEach, DataW.weights, List.append_nil, List.mem_append, List.mem_cons, List.not_mem_nil, or_false] at hmem
          have b0 := hmem s0.data.toList.length (.inl rfl)
          have b1 := hmem s1.data.toList.length (.inr rfl)
          rw [data_length] at b0 b1
          exact ⟨b0, b1⟩
    let S : Nat → S28 := fun i => if h : i < len then (each i h).choose else z28
    have hS : ∀ i, (h : i < len) → S i = (each i h).choose := fun i h => by simp only [S]; rw [dif_pos h]
    have hsp : ∀ i, i < len → w.cell? (x.add (i * 2)) = some (.string (S i).f0) ∧ w.cell? (x.add (i * 2 + 1)) = some (.string (S i).f1) ∧ (S i).f0.size ≤ reachBytes ∧ (S i).f1.size ≤ reachBytes := fun i h => by
      rw [hS i h]
      exact (each i h).choose_spec
    have hlen : ((List.range len).map S).length = len := by simp
    refine ⟨(List.range len).map S, hlen, hl, ⟨rfl, by rw [hlen]; exact Nat.le_trans hl (Nat.le_trans hm (by decide)), fun _ => ⟨x, rfl, fun j q hj => ?_⟩⟩, ?_, ?_⟩
    · obtain ⟨hjl, hq⟩ := List.getElem?_eq_some_iff.1 hj
      rw [hlen] at hjl
      simp at hq
      subst hq
      obtain ⟨c0, c1, _⟩ := hsp j hjl
      refine ⟨[.string (S j).f0, .string (S j).f1], rfl, k28_mk w (S j), fun i u hu => ?_⟩
      match i, hu with
      | 0, hu => simp at hu; subst hu; exact c0
      | 1, hu => simp at hu; subst hu; exact c1
      | i + 2, hu => simp at hu
    · have := hall _ (List.mem_cons_self)
      rw [hb] at this
      simp only [List.length_map, List.length_range] at this
      rw [hlen]
      omega
    · intro s hs
      obtain ⟨i, hi2, rfl⟩ := List.mem_map.1 hs
      exact (hsp i (List.mem_range.1 hi2)).2.2
end
end Go.Proofs.YthmpfncidpjnjaaDoor.P
namespace Go.Proofs.YthmpfncidpjnjaaDoor.P
open Go.ChangeShapes Go.WideShapes Go.Deep Go.RowKit Go.Proofs.YthmpfncidpjnjaaDoorW.PrintWords Go.Proofs.YthmpfncidpjnjaaDoorW.PrintLast
section
variable {H : Type} {enc : TypeId × Value → H} {w : World} {base : Nat} {spare : Nat → Bool} {held : Bool}
structure HeadIn (w : World) (cs : List Value) (m t : ByteArray) (st : Int) (rs : ByteArray) (mi : Int) (A : Option Addr) (c : Nat) (fs : List S28) : Prop where
  e : cs = [.string m, .string t, .int .i64 st, .string rs, .int .i64 mi, .slice A fs.length c]
  hc : fs.length ≤ c
  hr : Kd.C k28 w A fs.length fs
  hn : fs.length * 32 ≤ reachBytes
  hs : ∀ s ∈ fs, s.f0.size ≤ reachBytes ∧ s.f1.size ≤ reachBytes
  h0 : m.size ≤ reachBytes
  h1 : t.size ≤ reachBytes
  h3 : rs.size ≤ reachBytes
  h2 : (Lit.int .i64 st).wf = true
  h4 : (Lit.int .i64 mi).wf = true
set_option maxRecDepth 100000 in
theorem open_head {fuel : Nat} {cs : List Value} {x : DataW H × List MemPlace} (h : DataW.trod enc Tryd.prog w base spare held fuel 24 cs = some x) (hw : ∀ n ∈ x.1.weights Tryd.prog 24, n ≤ reachBytes) :
    ∃ m t st rs mi A c fs, HeadIn w cs m t st rs mi A c fs := by
  obtain ⟨ys, n, _, rfl, hl, hyl, hf⟩ := DataW.trod_struct Tryd.underlying24 h
  have cH : Tryd.prog.cellsOf 24 = 6 := by kernel_rfl
  have cS : Tryd.prog.cellsOf 9 = 1 := by kernel_rfl
  have cI : Tryd.prog.cellsOf 3 = 1 := by kernel_rfl
  have cL : Tryd.prog.cellsOf 22 = 1 := by kernel_rfl
  rw [cH] at hl
  match cs, hl, ys, hyl with
  | [v0, v1, v2, v3, v4, v5], _, [y0, y1, y2, y3, y4, y5], _ =>
    have g0 : DataW.trod enc Tryd.prog w base spare held n 9 ((([v0, v1, v2, v3, v4, v5] : List Value).drop 0).take (Tryd.prog.cellsOf 9)) = some y0 := hf 0 _ rfl
    rw [cS] at g0
    have g1 : DataW.trod enc Tryd.prog w base spare held n 9 ((([v0, v1, v2, v3, v4, v5] : List Value).drop 1).take (Tryd.prog.cellsOf 9)) = some y1 := hf 1 _ rfl
    rw [cS] at g1
    have g2 : DataW.trod enc Tryd.prog w base spare held n 3 ((([v0, v1, v2, v3, v4, v5] : List Value).drop 2).take (Tryd.prog.cellsOf 3)) = some y2 := hf 2 _ rfl
    rw [cI] at g2
    have g3 : DataW.trod enc Tryd.prog w base spare held n 9 ((([v0, v1, v2, v3, v4, v5] : List Value).drop 3).take (Tryd.prog.cellsOf 9)) = some y3 := hf 3 _ rfl
    rw [cS] at g3
    have g4 : DataW.trod enc Tryd.prog w base spare held n 3 ((([v0, v1, v2, v3, v4, v5] : List Value).drop 4).take (Tryd.prog.cellsOf 3)) = some y4 := hf 4 _ rfl
    rw [cI] at g4
    have g5 : DataW.trod enc Tryd.prog w base spare held n 22 ((([v0, v1, v2, v3, v4, v5] : List Value).drop 5).take (Tryd.prog.cellsOf 22)) = some y5 := hf 5 _ rfl
    rw [cL] at g5
    obtain ⟨s0, e0, z0, _⟩ := DataW.trod_string Tryd.underlying9 g0
    obtain ⟨s1, e1, z1, _⟩ := DataW.trod_string Tryd.underlying9 g1
    obtain ⟨s2, e2, z2, b2⟩ := DataW.trod_int Tryd.underlying3 g2
    obtain ⟨s3, e3, z3, _⟩ := DataW.trod_string Tryd.underlying9 g3
    obtain ⟨s4, e4, z4, b4⟩ := DataW.trod_int Tryd.underlying3 g4
    have f0 : v0 = .string s0 := by simpa using e0
    have f1 : v1 = .string s1 := by simpa using e1
    have f2 : v2 = .int .i64 s2 := by simpa using e2
    have f3 : v3 = .string s3 := by simpa using e3
    have f4 : v4 = .int .i64 s4 := by simpa using e4
    have k0 : y0 = (.lit (.string s0.data.toList), []) := by simpa using z0
    have k1 : y1 = (.lit (.string s1.data.toList), []) := by simpa using z1
    have k2 : y2 = (.lit (.int .i64 s2), []) := by simpa using z2
    have k3 : y3 = (.lit (.string s3.data.toList), []) := by simpa using z3
    have k4 : y4 = (.lit (.int .i64 s4), []) := by simpa using z4
    subst f0 f1 f2 f3 f4 k0 k1 k2 k3 k4
    have g6 : DataW.trod enc Tryd.prog w base spare held n 22 [v5] = some y5 := by simpa using g5
    obtain ⟨A, len, c, hv⟩ : ∃ A len c, v5 = .slice A len c := by
      rcases DataW.trod_slice Tryd.underlying22 g6 with ⟨hc, _⟩ | ⟨a, len, cap, _, _, _, _, hc, _⟩
      · exact ⟨_, _, _, by simpa using hc⟩
      · exact ⟨_, _, _, by simpa using hc⟩
    subst hv
    have hw2 : ∀ n ∈ (DataW.weightsEach Tryd.prog [9, 9, 3, 9, 3, 22] [.lit (.string s0.data.toList), .lit (.string s1.data.toList), .lit (.int .i64 s2), .lit (.string s3.data.toList), .lit (.int .i64 s4), y5.1]), n ≤ reachBytes := by
      intro n hn
      apply hw
      rw [show ∀ l : List (DataW H × List MemPlace), ((.agg (l.map (·.1)) : DataW H), l.flatMap (·.2)).1 = .agg (l.map (·.1)) from fun _ => rfl, DataW.weights, Tryd.underlying24]
      exact hn
    simp only [DataW.weightsEach, DataW.weights, List.append_nil, List.nil_append, List.mem_append, List.mem_cons, List.not_mem_nil, or_false] at hw2
    obtain ⟨fs, rfl, hc, hr, hn, hs⟩ := open_pairs (d := y5.1) (p := y5.2) Tryd.underlying22 Tryd.underlying28 rfl rfl Tryd.underlying9 Tryd.underlying9 (by kernel_rfl) (by kernel_rfl) (by kernel_rfl) ⟨n, g6⟩ (fun q hq => hw2 q (by simp [hq]))
    refine ⟨s0, s1, s2, s3, s4, A, c, fs, rfl, hc, hr, hn, hs, ?_, ?_, ?_, b2, b4⟩
    · have := hw2 s0.data.toList.length (by simp); rwa [data_length] at this
    · have := hw2 s1.data.toList.length (by simp); rwa [data_length] at this
    · have := hw2 s3.data.toList.length (by simp); rwa [data_length] at this
structure MsgIn (w : World) (cs : List Value) (m t : ByteArray) (st : Int) (rs : ByteArray) (mi : Int) (A : Option Addr) (c : Nat) (fs : List S28) (b : ByteArray) : Prop where
  e : cs = [.string m, .string t, .int .i64 st, .string rs, .int .i64 mi, .slice A fs.length c, .string b]
  h : HeadIn w [.string m, .string t, .int .i64 st, .string rs, .int .i64 mi, .slice A fs.length c] m t st rs mi A c fs
  hb : b.size ≤ reachBytes
set_option maxRecDepth 100000 in
theorem open_msg {fuel : Nat} {cs : List Value} {x : DataW H × List MemPlace} (h : DataW.trod enc Tryd.prog w base spare held fuel 26 cs = some x) (hw : ∀ n ∈ x.1.weights Tryd.prog 26, n ≤ reachBytes) :
    ∃ m t st rs mi A c fs b, MsgIn w cs m t st rs mi A c fs b := by
  obtain ⟨ys, n, _, rfl, hl, hyl, hf⟩ := DataW.trod_struct Tryd.underlying26 h
  have cM : Tryd.prog.cellsOf 26 = 7 := by kernel_rfl
  have cH : Tryd.prog.cellsOf 24 = 6 := by kernel_rfl
  have cS : Tryd.prog.cellsOf 9 = 1 := by kernel_rfl
  rw [cM] at hl
  match cs, hl, ys, hyl with
  | [v0, v1, v2, v3, v4, v5, v6], _, [y0, y1], _ =>
    have g0 : DataW.trod enc Tryd.prog w base spare held n 24 ((([v0, v1, v2, v3, v4, v5, v6] : List Value).drop 0).take (Tryd.prog.cellsOf 24)) = some y0 := hf 0 _ rfl
    rw [cH] at g0
    have g1 : DataW.trod enc Tryd.prog w base spare held n 9 ((([v0, v1, v2, v3, v4, v5, v6] : List Value).drop 6).take (Tryd.prog.cellsOf 9)) = some y1 := hf 1 _ rfl
    rw [cS] at g1
    have g2 : DataW.trod enc Tryd.prog w base spare held n 24 [v0, v1, v2, v3, v4, v5] = some y0 := by simpa using g0
    obtain ⟨s, e1, z1, _⟩ := DataW.trod_string Tryd.underlying9 g1
    have f1 : v6 = .string s := by simpa using e1
    have k1 : y1 = (.lit (.string s.data.toList), []) := by simpa using z1
    subst f1 k1
    have hw2 : ∀ n ∈ (DataW.weightsEach Tryd.prog [24, 9] [y0.1, .lit (.string s.data.toList)]), n ≤ reachBytes := by
      intro n hn
      apply hw
      rw [show ∀ l : List (DataW H × List MemPlace), ((.agg (l.map (·.1)) : DataW H), l.flatMap (·.2)).1 = .agg (l.map (·.1)) from fun _ => rfl, DataW.weights, Tryd.underlying26]
      exact hn
    simp only [DataW.weightsEach, DataW.weights, List.append_nil, List.mem_append, List.mem_cons, List.not_mem_nil, or_false] at hw2
    obtain ⟨m, t, st, rs, mi, A, c, fs, hh⟩ := open_head g2 (fun q hq => hw2 q (.inl hq))
    have he := hh.e
    simp only [List.cons.injEq, and_true] at he
    obtain ⟨rfl, rfl, rfl, rfl, rfl, rfl⟩ := he
    refine ⟨m, t, st, rs, mi, A, c, fs, s, rfl, hh, ?_⟩
    have := hw2 s.data.toList.length (by simp); rwa [data_length] at this
end
end Go.Proofs.YthmpfncidpjnjaaDoor.P
