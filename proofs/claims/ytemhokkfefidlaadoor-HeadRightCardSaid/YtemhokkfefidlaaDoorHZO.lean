/- Several parts together: Arguments opened: a slice of texts, and a slice of fields (two texts each), as the printed contracts read them, with their bounds; A row's conclusion from a contract that is handed the world's shape besides the listed variables. -/
import Derived.Test.YtemhokkfefidlaaDoorPx0
import Derived.Deep.Slices
import Derived.Deep.Fields
import Derived.ChangeSame
import Derived.SliceStrings
import Derived.SizedLaws
import Derived.Handed
import Derived.SevenTiedAt
namespace Go.Proofs.YtemhokkfefidlaaDoor.P
open Go.ChangeShapes Go.WideShapes Go.Deep Go.RowKit Go.Proofs.YtemhokkfefidlaaDoorW.PrintWords Go.Proofs.YtemhokkfefidlaaDoorW.PrintLast
section
variable {H : Type} {enc : TypeId × Value → H} {P : Program} {w : World} {base : Nat} {spare : Nat → Bool} {held : Bool}
theorem weightsAll_mem {e : TypeId} {d : DataW H} {n : Nat} (hn : n ∈ d.weights P e) : ∀ {ds : List (DataW H)}, d ∈ ds → n ∈ DataW.weightsAll P e ds
  | [], h => by cases h
  | x :: r, h => by
    simp only [DataW.weightsAll, List.mem_append]
    rcases List.mem_cons.1 h with rfl | h
    · exact .inl hn
    · exact .inr (weightsAll_mem hn h)
theorem weights_bound {ts : List TypeId} {ds : List (DataW H)} (h : (DataW.weightsEach P ts ds).all (· ≤ reachBytes) = true) {j : Nat} {t : TypeId} {d : DataW H} (ht : ts[j]? = some t) (hd : ds[j]? = some d) : ∀ n ∈ d.weights P t, n ≤ reachBytes := fun n hn => by
  have := List.all_eq_true.1 h _ (DataW.weights_mem_each ht hd n hn)
  simpa using this
/-- A slice of texts that came in. -/
theorem open_texts {t e : TypeId} {a : Option Addr} {len cap : Nat} {d : DataW H} {p : List MemPlace} (ht : P.underlying t = some (.slice e)) (he : P.underlying e = some .string) (hc : P.cellsOf e = 1) (hb : P.bytesOf e = 16)
    (h : DataW.Trod enc P w base spare held t (.slice a len cap) d p) (hw : ∀ n ∈ d.weights P t, n ≤ reachBytes) :
    ∃ l : List ByteArray, l.length = len ∧ len ≤ cap ∧ Kd.C Kd.string w a l.length l ∧ l.length * 16 ≤ reachBytes ∧ ∀ s ∈ l, s.size ≤ reachBytes := by
  obtain ⟨fuel, hf⟩ := h
  rcases open_strings ht he hc hf with ⟨hcs, _⟩ | ⟨x, l, c, ss, hcs, _, hl, hm, hz, hx, hcell, _⟩
  · simp [Value.cells] at hcs
    obtain ⟨rfl, rfl, rfl⟩ := hcs
    exact ⟨[], rfl, Nat.le_refl _, Kd.C_of_reads (d := ByteArray.empty) ⟨rfl, by simp, fun h => by simp at h⟩, by simp, by simp⟩
  · simp [Value.cells] at hcs
    obtain ⟨rfl, rfl, rfl⟩ := hcs
    have hss : len ≤ ss.length := by rw [hz]; split <;> omega
    have hlen : (ss.take len).length = len := by rw [List.length_take]; omega
    have hd : d = .slice (strs (ss.take len)) (strs (ss.drop len)) := congrArg Prod.fst hx
    subst hd
    have hall : ∀ n ∈ ((strs (ss.take len) : List (DataW H)).length + (strs (ss.drop len) : List (DataW H)).length) * P.bytesOf e :: (DataW.weightsAll P e (strs (ss.take len) : List (DataW H)) ++ DataW.weightsAll P e (strs (ss.drop len) : List (DataW H))), n ≤ reachBytes := by
      intro n hn
      apply hw
      rw [DataW.weights, ht]
      exact hn
    refine ⟨ss.take len, hlen, hl, ?_, ?_, ?_⟩
    · refine Kd.C_of_reads (d := ByteArray.empty) ⟨rfl, by rw [hlen]; exact Nat.le_trans hl (Nat.le_trans hm (by decide)), fun _ => ⟨x, rfl, fun j hj => ?_⟩⟩
      rw [hcell j (by omega)]
      rw [hlen] at hj
      rw [List.getD_eq_getElem?_getD, List.getD_eq_getElem?_getD, List.getElem?_take, if_pos hj]
    · have := hall _ (List.mem_cons_self)
      rw [hb] at this
      simp only [strs, List.length_map] at this
      omega
    · intro s hs
      have hm2 : s.data.toList.length ∈ DataW.weightsAll P e (strs (ss.take len) : List (DataW H)) := by
        refine weightsAll_mem (d := .lit (.string s.data.toList)) (by simp [DataW.weights]) ?_
        exact List.mem_map.2 ⟨s, hs, rfl⟩
      have := hall _ (List.mem_cons_of_mem _ (List.mem_append_left _ hm2))
      rw [data_length] at this
      exact this
/-- A slice of fields that came in. -/
theorem open_pairs {t e f0 f1 : TypeId} {n0 n1 : Field} {a : Option Addr} {len cap : Nat} {d : DataW H} {p : List MemPlace} (ht : P.underlying t = some (.slice e)) (he : P.underlying e = some (.struct #[n0, n1])) (h0 : n0.type = f0) (h1 : n1.type = f1)
    (hs0 : P.underlying f0 = some .string) (hs1 : P.underlying f1 = some .string) (hone : oneCellFields P #[n0, n1] = true) (hc : P.cellsOf e = 2) (hb : P.bytesOf e = 32)
    (h : DataW.Trod enc P w base spare held t (.slice a len cap) d p) (hw : ∀ n ∈ d.weights P t, n ≤ reachBytes) :
    ∃ l : List S46, l.length = len ∧ len ≤ cap ∧ Kd.C k46 w a l.length l ∧ l.length * 32 ≤ reachBytes ∧ ∀ s ∈ l, s.f0.size ≤ reachBytes ∧ s.f1.size ≤ reachBytes := by
  subst h0 h1
  obtain ⟨fuel, hf⟩ := h
  rcases open_slice ht hf with ⟨hcs, _⟩ | ⟨x, l, c, m, n, D, Pl, hcs, _, hl, hm, hmm, hx, hi⟩
  · simp [Value.cells] at hcs
    obtain ⟨rfl, rfl, rfl⟩ := hcs
    exact ⟨[], rfl, Nat.le_refl _, ⟨rfl, by simp, fun h => by simp at h⟩, by simp, by simp⟩
  · simp [Value.cells] at hcs
    obtain ⟨rfl, rfl, rfl⟩ := hcs
    have hd : d = .slice ((List.range len).map D) ((List.range (m - len)).map fun j => D (len + j)) := congrArg Prod.fst hx
    subst hd
    have hall : ∀ n ∈ (((List.range len).map D).length + ((List.range (m - len)).map fun j => D (len + j)).length) * P.bytesOf e :: (DataW.weightsAll P e ((List.range len).map D) ++ DataW.weightsAll P e ((List.range (m - len)).map fun j => D (len + j))), n ≤ reachBytes := by
      intro n hn
      apply hw
      rw [DataW.weights, ht]
      exact hn
    have each : ∀ i, i < len → ∃ s : S46, w.cell? (x.add (i * 2)) = some (.string s.f0) ∧ w.cell? (x.add (i * 2 + 1)) = some (.string s.f1) ∧ s.f0.size ≤ reachBytes ∧ s.f1.size ≤ reachBytes := by
      intro i him
      obtain ⟨cs', hcc, ht'⟩ := hi i (by rw [hmm]; split <;> omega)
      rw [hc] at hcc
      obtain ⟨ys, n', hn', hy, hlen, hyl, hfl⟩ := DataW.trod_struct he ht'
      obtain ⟨_, hcl, hat⟩ := World.cells?_some hcc
      simp only [Prod.mk.injEq] at hy
      obtain ⟨o0, q0⟩ := hone_of hone 0 n0 rfl
      obtain ⟨o1, q1⟩ := hone_of hone 1 n1 rfl
      match cs', hcl, ys, hyl with
      | [v0, v1], _, [y0, y1], _ =>
        have g0 := hfl 0 n0 rfl
        have g1 := hfl 1 n1 rfl
        rw [o0, q0] at g0
        rw [o1, q1] at g1
        obtain ⟨s0, e0, z0, _⟩ := DataW.trod_string hs0 g0
        obtain ⟨s1, e1, z1, _⟩ := DataW.trod_string hs1 g1
        simp at e0 e1
        subst e0 e1
        refine ⟨⟨s0, s1⟩, ?_, ?_, ?_⟩
        · have := hat 0 (by simp)
          simpa [Go.Deep.add_add] using this
        · have := hat 1 (by simp)
          simpa [Go.Deep.add_add] using this
        · have hDi : D i = .agg [y0.1, y1.1] := by simpa using hy.1
          have hmem : ∀ n ∈ (D i).weights P e, n ≤ reachBytes := fun n hn => hall n (List.mem_cons_of_mem _ (List.mem_append_left _ (weightsAll_mem hn (List.mem_map.2 ⟨i, List.mem_range.2 him, rfl⟩))))
          have z0' : y0 = (.lit (.string s0.data.toList), []) := by simpa using z0
          have z1' : y1 = (.lit (.string s1.data.toList), []) := by simpa using z1
          rw [hDi, z0', z1', DataW.weights, he] at hmem
          simp only [List.map_cons, List.map_nil, DataW.weightsEach, DataW.weights, List.append_nil, List.mem_append, List.mem_cons, List.not_mem_nil, or_false] at hmem
          have b0 := hmem s0.data.toList.length (.inl rfl)
          have b1 := hmem s1.data.toList.length (.inr rfl)
          rw [data_length] at b0 b1
          exact ⟨b0, b1⟩
    let S : Nat → S46 := fun i => if h : i < len then (each i h).choose else z46
    have hS : ∀ i, (h : i < len) → S i = (each i h).choose := fun i h => by simp only [S]; rw [dif_pos h]
    have hsp : ∀ i, i < len → w.cell? (x.add (i * 2)) = some (.string (S i).f0) ∧ w.cell? (x.add (i * 2 + 1)) = some (.string (S i).f1) ∧ (S i).f0.size ≤ reachBytes ∧ (S i).f1.size ≤ reachBytes := fun i h => by
      rw [hS i h]
      exact (each i h).choose_spec
    have hlen : ((List.range len).map S).length = len := by simp
    refine ⟨(List.range len).map S, hlen, hl, ⟨rfl, by rw [hlen]; exact Nat.le_trans hl (Nat.le_trans hm (by decide)), fun _ => ⟨x, rfl, fun j q hj => ?_⟩⟩, ?_, ?_⟩
    · obtain ⟨hjl, hq⟩ := List.getElem?_eq_some_iff.1 hj
      rw [hlen] at hjl
      simp at hq
      subst hq
      obtain ⟨c0, c1, _⟩ := hsp j hjl
      refine ⟨[.string (S j).f0, .string (S j).f1], rfl, k46_mk w (S j), fun i u hu => ?_⟩
      match i, hu with
      | 0, hu => simp at hu; subst hu; exact c0
      | 1, hu => simp at hu; subst hu; exact c1
      | i + 2, hu => simp at hu
    · have := hall _ (List.mem_cons_self)
      rw [hb] at this
      simp only [List.length_map, List.length_range] at this
      rw [hlen]
      omega
    · intro s hs
      obtain ⟨i, hi2, rfl⟩ := List.mem_map.1 hs
      exact (hsp i (List.mem_range.1 hi2)).2.2
end
end Go.Proofs.YtemhokkfefidlaaDoor.P
namespace Go.Proofs.YtemhokkfefidlaaDoor.P
open Go
theorem returns_shaped {H : Type} {enc : TypeId × Value → H} {a : Assume} {C : Checked} {os : Os} {f : FuncId} {fn : Func} {s : ChangeSpec} {conds : List PathCond} {apart fresh handsOn again : Bool} {X : World → Array Value → Prop}
    (hX : ∀ (w w' : World) (args : Array Value), w.heap = w'.heap → X w args → X w' args)
    (own : ownKnob C.prog.godebug = none) (started : os.Started) (noInit : C.prog.inits.idxOf? f = none) (hfn : C.prog.funcs[f]? = some fn)
    (witness : ∃ (w : World) (tape : Tape) (i : Input), w.os = os ∧ (w.forCall tape i).Shaped C.prog ∧ i.vars = [] ∧ Input.okWide C.prog (w.forCall tape i) .any w.heap.size f i ∧
      ((s.pre enc C.prog fn conds apart (w.forCall tape i).memory i.args ∧ X (w.forCall tape i).memory i.args) ∧ sizedMet enc C.prog fn (OpenSpec.ofChange s) apart (w.forCall tape i).memory i.args) ∧ a.holds C.prog (lone (Frame.enter C.prog f i.args .normal) [] (w.forCall tape i)))
    (contract : ∀ (W : World) (base : Nat) (args : Array Value) (ds gs : List (DataW H)) (before : List MemPlace),
      (∀ (j : Nat) t v, fn.params[j]? = some t → args[j]? = some v → Value.okWide C.prog W .any base t v) →
      DataW.Whole enc C.prog fn.params.toList s.vars apart W args.toList ds gs before →
      conds.all (PathCond.test C.prog ⟨fn.params.toList, ds, s.plain.varTypes C.prog, gs⟩) = true →
      (DataW.weightsEach C.prog (fn.params.toList ++ s.plain.varTypes C.prog) (ds ++ gs)).all (· ≤ reachBytes) = true → X W args → W.ShapedOpen C.prog →
      a.holds C.prog (lone (Frame.enter C.prog f args .normal) [] W) →
      Calls C.prog f args W fun e W' => ∃ v, e = .returned v ∧ s.post enc C.prog fn apart fresh handsOn again W args v W') :
    ReturnsInHanded a C os f .any (fun w args => (s.pre enc C.prog fn conds apart w args ∧ X w args) ∧ sizedMet enc C.prog fn (OpenSpec.ofChange s) apart w args) (s.post enc C.prog fn apart fresh handsOn again) := by
  refine returnsInHanded_of_calls own started noInit witness ?_
  intro w tape i _ hsh _ hok hpre hholds
  obtain ⟨_, _, _, fn', hfn', _, _, _, _, hval⟩ := hok
  obtain rfl : fn' = fn := Option.some.inj (hfn'.symm.trans hfn)
  obtain ⟨⟨⟨ds, gs, before, hw, hc⟩, hx⟩, hz⟩ := hpre
  refine (contract (w.forCall tape i) w.heap.size i.args ds gs before hval (DataW.Whole.of_heap (w' := w.forCall tape i) (by rfl) hw) hc (hz.weights hw) (hX _ _ _ (by rfl) hx) hsh hholds).mono fun e W' ⟨v, he, hp⟩ => ?_
  subst he
  exact ChangeSpec.post_blind hp
end Go.Proofs.YtemhokkfefidlaaDoor.P
