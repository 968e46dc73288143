/- Several parts together: Arguments opened: a slice of texts, and a slice of fields (two texts each), as the printed contracts read them, with their bounds; Arguments opened: a head (a struct that holds a slice of fields), as the printed contracts read them, with their bounds; A row's conclusion from a contract that is handed the world's shape besides the listed variables. -/
import Derived.Test.YtemhokkfefidlaaGreatDoorPx0
import Derived.Deep.Slices
import Derived.Deep.Fields
import Derived.ChangeSame
import Derived.SliceStrings
import Derived.SizedLaws
import Derived.Handed
import Derived.SevenTiedAt
set_option linter.unusedVariables false
set_option linter.unusedSimpArgs false
namespace Go.Proofs.YtemhokkfefidlaaGreatDoor.P
open Go.ChangeShapes Go.WideShapes Go.Deep Go.RowKit Go.Proofs.YtemhokkfefidlaaGreatDoorW.PrintWords Go.Proofs.YtemhokkfefidlaaGreatDoorW.PrintLast
section
variable {H : Type} {enc : TypeId × Value → H} {P : Program} {w : World} {base : Nat} {spare : Nat → Bool} {held : Bool}
theorem weightsAll_mem {e : TypeId} {d : DataW H} {n : Nat} (hn : n ∈ d.weights P e) : ∀ {ds : List (DataW H)}, d ∈ ds → n ∈ DataW.weightsAll P e ds
  | [], h => by cases h
  | x :: r, h => by
    simp only [DataW.weightsAll, List.mem_append]
    rcases List.mem_cons.1 h with rfl | h
    · exact .inl hn
    · exact .inr (weightsAll_mem hn h)
theorem weights_bound {ts : List TypeId} {ds : List (DataW H)} (h : (DataW.weightsEach P ts ds).all (· ≤ reachBytes) = true) {j : Nat} {t : TypeId} {d : DataW H} (ht : ts[j]? = some t) (hd : ds[j]? = some d) : ∀ n ∈ d.weights P t, n ≤ reachBytes := fun n hn => by
  have := List.all_eq_true.1 h _ (DataW.weights_mem_each ht hd n hn)
  simpa using this
theorem open_pairs {t e f0 f1 : TypeId} {n0 n1 : Field} {a : Option Addr} {len cap : Nat} {d : DataW H} {p : List MemPlace} (ht : P.underlying t = some (.slice e)) (he : P.underlying e = some (.struct #[n0, n1])) (h0 : n0.type = f0) (h1 : n1.type = f1)
    (hs0 : P.underlying f0 = some .string) (hs1 : P.underlying f1 = some .string) (hone : oneCellFields P #[n0, n1] = true) (hc : P.cellsOf e = 2) (hb : P.bytesOf e = 32)
    (h : DataW.Trod enc P w base spare held t (.slice a len cap) d p) (hw : ∀ n ∈ d.weights P t, n ≤ reachBytes) :
    ∃ l : List S37, l.length = len ∧ len ≤ cap ∧ Kd.C k37 w a l.length l ∧ l.length * 32 ≤ reachBytes ∧ ∀ s ∈ l, s.f0.size ≤ reachBytes ∧ s.f1.size ≤ reachBytes := by
  subst h0 h1
  obtain ⟨fuel, hf⟩ := h
  rcases open_slice ht hf with ⟨hcs, _⟩ | ⟨x, l, c, m, n, D, Pl, hcs, _, hl, hm, hmm, hx, hi⟩
  · simp [Value.cells] at hcs
    obtain ⟨rfl, rfl, rfl⟩ := hcs
    exact ⟨[], rfl, Nat.le_refl _, ⟨rfl, by simp, fun h => by simp at h⟩, by simp, by simp⟩
  · simp [Value.cells] at hcs
    obtain ⟨rfl, rfl, rfl⟩ := hcs
    have hd : d = .slice ((List.range len).map D) ((List.range (m - len)).map fun j => D (len + j)) := congrArg Prod.fst hx
    subst hd
    have hall : ∀ n ∈ (((List.range len).map D).length + ((List.range (m - len)).map fun j => D (len + j)).length) * P.bytesOf e :: (DataW.weightsAll P e ((List.range len).map D) ++ DataW.weightsAll P e ((List.range (m - len)).map fun j => D (len + j))), n ≤ reachBytes := by
      intro n hn
      apply hw
      rw [DataW.weights, ht]
      exact hn
    have each : ∀ i, i < len → ∃ s : S37, w.cell? (x.add (i * 2)) = some (.string s.f0) ∧ w.cell? (x.add (i * 2 + 1)) = some (.string s.f1) ∧ s.f0.size ≤ reachBytes ∧ s.f1.size ≤ reachBytes := by
      intro i him
      obtain ⟨cs', hcc, ht'⟩ := hi i (by rw [hmm]; split <;> omega)
      rw [hc] at hcc
      obtain ⟨ys, n', hn', hy, hlen, hyl, hfl⟩ := DataW.trod_struct he ht'
      obtain ⟨_, hcl, hat⟩ := World.cells?_some hcc
      simp only [Prod.mk.injEq] at hy
      obtain ⟨o0, q0⟩ := hone_of hone 0 n0 rfl
      obtain ⟨o1, q1⟩ := hone_of hone 1 n1 rfl
      match cs', hcl, ys, hyl with
      | [v0, v1], _, [y0, y1], _ =>
        have g0 := hfl 0 n0 rfl
        have g1 := hfl 1 n1 rfl
        rw [o0, q0] at g0
        rw [o1, q1] at g1
        obtain ⟨s0, e0, z0, _⟩ := DataW.trod_string hs0 g0
        obtain ⟨s1, e1, z1, _⟩ := DataW.trod_string hs1 g1
        simp at e0 e1
        subst e0 e1
        refine ⟨⟨s0, s1⟩, ?_, ?_, ?_⟩
        · have := hat 0 (by simp)
          simpa [Go.Deep.add_add] using this
        · have := hat 1 (by simp)
          simpa [Go.Deep.add_add] using this
        · have hDi : D i = .agg [y0.1, y1.1] := by simpa using hy.1
          have hmem : ∀ n ∈ (D i).weights P e, n ≤ reachBytes := fun n hn => hall n (List.mem_cons_of_mem _ (List.mem_append_left _ (weightsAll_mem hn (List.mem_map.2 ⟨i, List.mem_range.2 him, rfl⟩))))
          have z0' : y0 = (.lit (.string s0.data.toList), []) := by simpa using z0
          have z1' : y1 = (.lit (.string s1.data.toList), []) := by simpa using z1
          rw [hDi, z0', z1', DataW.weights, he] at hmem
          simp only [List.map_cons, List.map_nil, DataW.weightsEach, DataW.weights, List.append_nil, List.mem_append, List.mem_cons, List.not_mem_nil, or_false] at hmem
          have b0 := hmem s0.data.toList.length (.inl rfl)
          have b1 := hmem s1.data.toList.length (.inr rfl)
          rw [data_length] at b0 b1
          exact ⟨b0, b1⟩
    let S : Nat → S37 := fun i => if h : i < len then (each i h).choose else z37
    have hS : ∀ i, (h : i < len) → S i = (each i h).choose := fun i h => by simp only [S]; rw [dif_pos h]
    have hsp : ∀ i, i < len → w.cell? (x.add (i * 2)) = some (.string (S i).f0) ∧ w.cell? (x.add (i * 2 + 1)) = some (.string (S i).f1) ∧ (S i).f0.size ≤ reachBytes ∧ (S i).f1.size ≤ reachBytes := fun i h => by
      rw [hS i h]
      exact (each i h).choose_spec
    have hlen : ((List.range len).map S).length = len := by simp
    refine ⟨(List.range len).map S, hlen, hl, ⟨rfl, by rw [hlen]; exact Nat.le_trans hl (Nat.le_trans hm (by decide)), fun _ => ⟨x, rfl, fun j q hj => ?_⟩⟩, ?_, ?_⟩
    · obtain ⟨hjl, hq⟩ := List.getElem?_eq_some_iff.1 hj
      rw [hlen] at hjl
      simp at hq
      subst hq
      obtain ⟨c0, c1, _⟩ := hsp j hjl
      refine ⟨[.string (S j).f0, .string (S j).f1], rfl, k37_mk w (S j), fun i u hu => ?_⟩
      match i, hu with
      | 0, hu => simp at hu; subst hu; exact c0
      | 1, hu => simp at hu; subst hu; exact c1
      | i + 2, hu => simp at hu
    · have := hall _ (List.mem_cons_self)
      rw [hb] at this
      simp only [List.length_map, List.length_range] at this
      rw [hlen]
      omega
    · intro s hs
      obtain ⟨i, hi2, rfl⟩ := List.mem_map.1 hs
      exact (hsp i (List.mem_range.1 hi2)).2.2
end
end Go.Proofs.YtemhokkfefidlaaGreatDoor.P
namespace Go.Proofs.YtemhokkfefidlaaGreatDoor.P
open Go.ChangeShapes Go.WideShapes Go.Deep Go.RowKit Go.Proofs.YtemhokkfefidlaaGreatDoorW.PrintWords Go.Proofs.YtemhokkfefidlaaGreatDoorW.PrintLast
section
variable {H : Type} {enc : TypeId × Value → H} {w : World} {base : Nat} {spare : Nat → Bool} {held : Bool}
structure HeadIn (w : World) (cs : List Value) (m t : ByteArray) (st : Int) (rs : ByteArray) (mi : Int) (A : Option Addr) (c : Nat) (fs : List S37) : Prop where
  e : cs = [.string m, .string t, .int .i64 st, .string rs, .int .i64 mi, .slice A fs.length c]
  hc : fs.length ≤ c
  hr : Kd.C k37 w A fs.length fs
  hn : fs.length * 32 ≤ reachBytes
  hs : ∀ s ∈ fs, s.f0.size ≤ reachBytes ∧ s.f1.size ≤ reachBytes
  h0 : m.size ≤ reachBytes
  h1 : t.size ≤ reachBytes
  h3 : rs.size ≤ reachBytes
  h2 : (Lit.int .i64 st).wf = true
  h4 : (Lit.int .i64 mi).wf = true
set_option maxRecDepth 100000 in
theorem open_head {fuel : Nat} {cs : List Value} {x : DataW H × List MemPlace} (h : DataW.trod enc Tryz.prog w base spare held fuel 30 cs = some x) (hw : ∀ n ∈ x.1.weights Tryz.prog 30, n ≤ reachBytes) :
    ∃ m t st rs mi A c fs, HeadIn w cs m t st rs mi A c fs := by
  obtain ⟨ys, n, _, rfl, hl, hyl, hf⟩ := DataW.trod_struct Tryz.underlying30 h
  have cH : Tryz.prog.cellsOf 30 = 6 := by kernel_rfl
  have cS : Tryz.prog.cellsOf 9 = 1 := by kernel_rfl
  have cI : Tryz.prog.cellsOf 3 = 1 := by kernel_rfl
  have cL : Tryz.prog.cellsOf 28 = 1 := by kernel_rfl
  rw [cH] at hl
  match cs, hl, ys, hyl with
  | [v0, v1, v2, v3, v4, v5], _, [y0, y1, y2, y3, y4, y5], _ =>
    have g0 : DataW.trod enc Tryz.prog w base spare held n 9 ((([v0, v1, v2, v3, v4, v5] : List Value).drop 0).take (Tryz.prog.cellsOf 9)) = some y0 := hf 0 _ rfl
    rw [cS] at g0
    have g1 : DataW.trod enc Tryz.prog w base spare held n 9 ((([v0, v1, v2, v3, v4, v5] : List Value).drop 1).take (Tryz.prog.cellsOf 9)) = some y1 := hf 1 _ rfl
    rw [cS] at g1
    have g2 : DataW.trod enc Tryz.prog w base spare held n 3 ((([v0, v1, v2, v3, v4, v5] : List Value).drop 2).take (Tryz.prog.cellsOf 3)) = some y2 := hf 2 _ rfl
    rw [cI] at g2
    have g3 : DataW.trod enc Tryz.prog w base spare held n 9 ((([v0, v1, v2, v3, v4, v5] : List Value).drop 3).take (Tryz.prog.cellsOf 9)) = some y3 := hf 3 _ rfl
    rw [cS] at g3
    have g4 : DataW.trod enc Tryz.prog w base spare held n 3 ((([v0, v1, v2, v3, v4, v5] : List Value).drop 4).take (Tryz.prog.cellsOf 3)) = some y4 := hf 4 _ rfl
    rw [cI] at g4
    have g5 : DataW.trod enc Tryz.prog w base spare held n 28 ((([v0, v1, v2, v3, v4, v5] : List Value).drop 5).take (Tryz.prog.cellsOf 28)) = some y5 := hf 5 _ rfl
    rw [cL] at g5
    obtain ⟨s0, e0, z0, _⟩ := DataW.trod_string Tryz.underlying9 g0
    obtain ⟨s1, e1, z1, _⟩ := DataW.trod_string Tryz.underlying9 g1
    obtain ⟨s2, e2, z2, b2⟩ := DataW.trod_int Tryz.underlying3 g2
    obtain ⟨s3, e3, z3, _⟩ := DataW.trod_string Tryz.underlying9 g3
    obtain ⟨s4, e4, z4, b4⟩ := DataW.trod_int Tryz.underlying3 g4
    have f0 : v0 = .string s0 := by simpa using e0
    have f1 : v1 = .string s1 := by simpa using e1
    have f2 : v2 = .int .i64 s2 := by simpa using e2
    have f3 : v3 = .string s3 := by simpa using e3
    have f4 : v4 = .int .i64 s4 := by simpa using e4
    have k0 : y0 = (.lit (.string s0.data.toList), []) := by simpa using z0
    have k1 : y1 = (.lit (.string s1.data.toList), []) := by simpa using z1
    have k2 : y2 = (.lit (.int .i64 s2), []) := by simpa using z2
    have k3 : y3 = (.lit (.string s3.data.toList), []) := by simpa using z3
    have k4 : y4 = (.lit (.int .i64 s4), []) := by simpa using z4
    subst f0 f1 f2 f3 f4 k0 k1 k2 k3 k4
    have g6 : DataW.trod enc Tryz.prog w base spare held n 28 [v5] = some y5 := by simpa using g5
    obtain ⟨A, len, c, hv⟩ : ∃ A len c, v5 = .slice A len c := by
      rcases DataW.trod_slice Tryz.underlying28 g6 with ⟨hc, _⟩ | ⟨a, len, cap, _, _, _, _, hc, _⟩
      · exact ⟨_, _, _, by simpa using hc⟩
      · exact ⟨_, _, _, by simpa using hc⟩
    subst hv
    have hw2 : ∀ n ∈ (DataW.weightsEach Tryz.prog [9, 9, 3, 9, 3, 28] [.lit (.string s0.data.toList), .lit (.string s1.data.toList), .lit (.int .i64 s2), .lit (.string s3.data.toList), .lit (.int .i64 s4), y5.1]), n ≤ reachBytes := by
      intro n hn
      apply hw
      rw [show ∀ l : List (DataW H × List MemPlace), ((.agg (l.map (·.1)) : DataW H), l.flatMap (·.2)).1 = .agg (l.map (·.1)) from fun _ => rfl, DataW.weights, Tryz.underlying30]
      exact hn
    simp only [DataW.weightsEach, DataW.weights, List.append_nil, List.nil_append, List.mem_append, List.mem_cons, List.not_mem_nil, or_false] at hw2
    obtain ⟨fs, rfl, hc, hr, hn, hs⟩ := open_pairs (d := y5.1) (p := y5.2) Tryz.underlying28 Tryz.underlying37 rfl rfl Tryz.underlying9 Tryz.underlying9 (by kernel_rfl) (by kernel_rfl) (by kernel_rfl) ⟨n, g6⟩ (fun q hq => hw2 q (by simp [hq]))
    refine ⟨s0, s1, s2, s3, s4, A, c, fs, rfl, hc, hr, hn, hs, ?_, ?_, ?_, b2, b4⟩
    · have := hw2 s0.data.toList.length (by simp); rwa [data_length] at this
    · have := hw2 s1.data.toList.length (by simp); rwa [data_length] at this
    · have := hw2 s3.data.toList.length (by simp); rwa [data_length] at this
end
end Go.Proofs.YtemhokkfefidlaaGreatDoor.P
namespace Go.Proofs.YtemhokkfefidlaaGreatDoor.P
open Go
theorem returns_shaped {H : Type} {enc : TypeId × Value → H} {a : Assume} {C : Checked} {os : Os} {f : FuncId} {fn : Func} {s : ChangeSpec} {conds : List PathCond} {apart fresh handsOn again : Bool} {X : World → Array Value → Prop}
    (hX : ∀ (w w' : World) (args : Array Value), w.heap = w'.heap → X w args → X w' args)
    (own : ownKnob C.prog.godebug = none) (started : os.Started) (noInit : C.prog.inits.idxOf? f = none) (hfn : C.prog.funcs[f]? = some fn)
    (witness : ∃ (w : World) (tape : Tape) (i : Input), w.os = os ∧ (w.forCall tape i).Shaped C.prog ∧ i.vars = [] ∧ Input.okWide C.prog (w.forCall tape i) .any w.heap.size f i ∧
      ((s.pre enc C.prog fn conds apart (w.forCall tape i).memory i.args ∧ X (w.forCall tape i).memory i.args) ∧ sizedMet enc C.prog fn (OpenSpec.ofChange s) apart (w.forCall tape i).memory i.args) ∧ a.holds C.prog (lone (Frame.enter C.prog f i.args .normal) [] (w.forCall tape i)))
    (contract : ∀ (W : World) (base : Nat) (args : Array Value) (ds gs : List (DataW H)) (before : List MemPlace),
      (∀ (j : Nat) t v, fn.params[j]? = some t → args[j]? = some v → Value.okWide C.prog W .any base t v) →
      DataW.Whole enc C.prog fn.params.toList s.vars apart W args.toList ds gs before →
      conds.all (PathCond.test C.prog ⟨fn.params.toList, ds, s.plain.varTypes C.prog, gs⟩) = true →
      (DataW.weightsEach C.prog (fn.params.toList ++ s.plain.varTypes C.prog) (ds ++ gs)).all (· ≤ reachBytes) = true → X W args → W.ShapedOpen C.prog →
      a.holds C.prog (lone (Frame.enter C.prog f args .normal) [] W) →
      Calls C.prog f args W fun e W' => ∃ v, e = .returned v ∧ s.post enc C.prog fn apart fresh handsOn again W args v W') :
    ReturnsInHanded a C os f .any (fun w args => (s.pre enc C.prog fn conds apart w args ∧ X w args) ∧ sizedMet enc C.prog fn (OpenSpec.ofChange s) apart w args) (s.post enc C.prog fn apart fresh handsOn again) := by
  refine returnsInHanded_of_calls own started noInit witness ?_
  intro w tape i _ hsh _ hok hpre hholds
  obtain ⟨_, _, _, fn', hfn', _, _, _, _, hval⟩ := hok
  obtain rfl : fn' = fn := Option.some.inj (hfn'.symm.trans hfn)
  obtain ⟨⟨⟨ds, gs, before, hw, hc⟩, hx⟩, hz⟩ := hpre
  refine (contract (w.forCall tape i) w.heap.size i.args ds gs before hval (DataW.Whole.of_heap (w' := w.forCall tape i) (by rfl) hw) hc (hz.weights hw) (hX _ _ _ (by rfl) hx) hsh hholds).mono fun e W' ⟨v, he, hp⟩ => ?_
  subst he
  exact ChangeSpec.post_blind hp
end Go.Proofs.YtemhokkfefidlaaGreatDoor.P
