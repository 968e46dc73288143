/- A law for a loop over an iterator that keeps state in cells of its own and a body that always goes on: over any program. -/
import Derived.RangeFuncNested
import Derived.RangeFuncLeaves
import Derived.RangeFuncBound
import Derived.RangeFuncCalls
namespace Go.Proofs.YtljppmpigijgaaaDoor.H
open Go.RowKit Go

/-- What may turn in a world without an invariant noticing: new blocks, and one block of those that R names. -/
def Ab (R : Nat → Prop) (J : Nat → World → Prop) : Prop := ∀ k A B row, J k A → A.grownBy B row → (∀ r, row = some r → R r) → J k B

def rfPost (D L : Nat) (S : Nat → Prop) (I : World → Prop) (W : World) : Exit → Act → World → Prop
  | .normal, _, W' => W.heap.size ≤ W'.heap.size ∧ W'.heap[D]? = W.heap[D]? ∧ W'.heap[L]? = W.heap[L]? ∧ (∀ b, S b → W'.heap[b]? = W.heap[b]?) ∧ I W'
  | _, _, _ => False

theorem rf_all {P : Program} {n : Nat} {g : Operand} {ps : Array Tmp} {assign body : Code} {Q : Exit → Act → World → Prop} {a : Act} {w : World}
    {gf : Nat} {lb : Array Value} (hg : a.eval g = .func (.func gf) #[] lb) (eg : ∀ args w, (callFunc gf args).run P w = .ok (.enter gf args) w)
    (p : Tmp) (hps : ps = #[p]) (xs : List Value) (B0 : Nat) (R S : Nat → Prop) (hS : ∀ b, S b → b ≠ w.heap.size + 1) (hR : ∀ r, R r → r ≠ w.heap.size ∧ r ≠ w.heap.size + 1)
    (hit : ∀ (J : Nat → World → Prop) (W : World), W.heap.size = w.heap.size + 2 → Below w.heap.size w W → Ab R J →
      (∀ k x W1, J k W1 → B0 ≤ W1.heap.size → xs[k]? = some x → YieldAt Fence.wide (n - 1 - 1) P (w.heap.size + 1) #[x] W1 fun e W' => e = .returned (.bool true) ∧ J (k + 1) W' ∧ W1.heap.size ≤ W'.heap.size ∧ ∀ b, S b → W'.heap[b]? = W1.heap[b]?) →
      J 0 W → CallsIn Fence.wide (n - 1) P gf (#[.func (.yield (w.heap.size + 1)) #[] #[]] ++ lb) W fun e W' => (∃ v, e = .returned v) ∧ J xs.length W')
    (I : Nat → World → Prop) (hI : ∀ k A B row, I k A → A.grownBy B row → (∀ r, row = some r → R r ∨ r = w.heap.size + 1) → I k B) (h0 : I 0 w) (a₁ : Value → Act)
    (hassign : ∀ (l : Nat) (x : Value) (W : World) (K : Act → World → Prop), K (a₁ x) W →
      assign.wpIn (Fence.wide.inRound l) (n - 1 - 1) P (Exit.then K (fun _ _ _ => False)) { tmps := a.tmps.setIfInBounds p x, defers := [] } W)
    (hbody : ∀ (l k : Nat) (x : Value) (W : World), I k W → xs[k]? = some x → w.heap.size + 1 < W.heap.size → B0 ≤ W.heap.size →
      body.wpIn (Fence.wide.inRound l) (n - 1 - 1) P (rfPost w.heap.size (w.heap.size + 1) S (I (k + 1)) W) (a₁ x) W)
    (hdone : ∀ (W : World), I xs.length W → W.heap[w.heap.size]? = some (.deferred (some [])) → Q .normal { a with defers := { target := .collected w.heap.size, args := #[] } :: a.defers } W) :
    (Code.rangeFunc g ps assign body).wpIn Fence.wide n P Q a w := by
  refine wpIn_rangeFunc ?_
  intro fn hfn
  have hro : Fence.wide.round = none := rfl
  rw [hro]
  obtain ⟨rec, hrec⟩ : ∃ rec : LoopState → Option Code → Loop, rec = fun st pe => { state := st, pending := pe, fn, tmps := a.tmps, params := ps, assign, body, defers := w.heap.size } := ⟨_, rfl⟩
  obtain ⟨W1, hW1⟩ : ∃ W1, W1 = (w.alloc (.deferred (some []))).alloc (.loop (rec .ready none)) := ⟨_, rfl⟩
  have hsz : W1.heap.size = w.heap.size + 2 := by rw [hW1]; simp
  have hL1 : W1.heap[w.heap.size + 1]? = some (.loop (rec .ready none)) := by
    rw [hW1]; have := World.alloc_heap_new (w.alloc (.deferred (some []))) (.loop (rec .ready none)); rwa [World.size_alloc] at this
  have hK1 : W1.heap[w.heap.size]? = some (.deferred (some [])) := by
    rw [hW1]; exact (Below.heap_alloc _ _ _ (by simp)).trans (World.alloc_heap_new w _)
  have hI1 : I 0 W1 := by
    rw [hW1]
    exact hI 0 _ _ none (hI 0 _ _ none h0 (World.grownBy_alloc _ _ none) (fun r e => by cases e)) (World.grownBy_alloc _ _ none) (fun r e => by cases e)
  have hb1 : Below w.heap.size w W1 := by
    rw [hW1]; exact ((Below.refl _ w).alloc (Nat.le_refl _) _).alloc (by simp) _
  refine ⟨w.heap.size + 1, [{ target := .collected w.heap.size, args := #[] }], W1, { target := .fn (.func gf) lb, args := #[.func (.yield (w.heap.size + 1)) #[] #[]] }, W1, gf,
    #[.func (.yield (w.heap.size + 1)) #[] #[]] ++ lb, W1, ?_, ?_, ?_, ?_, fun h => by simp [Fence.wide] at h, ?_⟩
  · rw [hW1, hrec]; exact run_enterLoop_outer _ _ _ _ _
  · simp only [resolve, hg]
    simp [go_sem]
  · intro f' hf'; trivial
  · simp [invoke, go_sem, eg]
  · refine (hit (fun k W => I k W ∧ W.heap[w.heap.size + 1]? = some (.loop (rec .ready none)) ∧ W.heap[w.heap.size]? = some (.deferred (some []))) W1 hsz hb1 ?_ ?_ ⟨hI1, hL1, hK1⟩).mono ?_
    · rintro k A B row ⟨hi, hl, hk⟩ hgr hrow
      have h1 : w.heap.size + 1 < A.heap.size := (Array.getElem?_eq_some_iff.1 hl).1
      refine ⟨hI k A B row hi hgr (fun r e => .inl (hrow r e)), (hgr.block _ h1 ?_).trans hl, (hgr.block _ (by omega) ?_).trans hk⟩
      · intro e; exact (hR _ (hrow _ e.symm)).2 rfl
      · intro e; exact (hR _ (hrow _ e.symm)).1 rfl
    · rintro k x W ⟨hi, hl, hk⟩ hB0 hx
      have hlt : w.heap.size + 1 < W.heap.size := (Array.getElem?_eq_some_iff.1 hl).1
      have hy := run_yield (P := P) (args := #[x]) hl (by rw [hrec, hps]; rfl)
      have hz : (ps.zip #[x]).foldl (fun tmps (t, a) => tmps.setIfInBounds t a) a.tmps = a.tmps.setIfInBounds p x := by rw [hps]; simp
      rw [hrec] at hy
      refine ⟨fn, _, assign, body, hy, roundIn_of_wpIn hfn ?_⟩
      have hz' : (({ state := LoopState.ready, pending := none, fn := fn, tmps := a.tmps, params := ps, assign := assign, body := body, defers := w.heap.size } : Loop).params.zip #[x]).foldl (fun tmps (t, a) => tmps.setIfInBounds t a) a.tmps = a.tmps.setIfInBounds p x := hz
      rw [hz']
      refine hassign _ x W _ ⟨_, run_beginRound hl (by rw [hrec]), ?_⟩
      obtain ⟨W2, hW2⟩ : ∃ W2, W2 = W.putObj (w.heap.size + 1) (.loop { rec .ready none with state := .busy }) := ⟨_, rfl⟩
      rw [← hW2]
      have hl2 : W2.heap[w.heap.size + 1]? = some (.loop { rec .ready none with state := .busy }) := by rw [hW2]; exact World.putObj_heap_same hlt
      have hk2 : W2.heap[w.heap.size]? = some (.deferred (some [])) := by rw [hW2]; exact (World.putObj_heap_other (by omega)).trans hk
      have hg2 : W.grownBy W2 (some (w.heap.size + 1)) := by rw [hW2]; exact grownBy_putObj' _ _ _
      have hi2 : I k W2 := hI k _ _ _ hi hg2 (fun r e => by cases e; exact .inr rfl)
      refine wpIn_mono (hbody _ k x W2 hi2 hx (by rw [hW2]; simpa using hlt) (by rw [hW2]; simpa using hB0)) ?_
      rintro e a3 W3 hp
      cases e with
      | normal =>
        obtain ⟨hz3, hd, hl3, hs3, hi3⟩ := hp
        have hl4 := hl3.trans hl2
        have hr := run_endRound (P := P) none hl4
        refine ⟨_, _, hr, rfl, ⟨?_, ?_, ?_⟩, by simp only [World.putObj_size]; rw [hW2] at hz3; simpa using hz3, fun b hb => ?_⟩
        · exact hI _ _ _ _ hi3 (grownBy_putObj' _ _ _) (fun r e => by cases e; exact .inr rfl)
        · rw [World.putObj_heap_same (Array.getElem?_eq_some_iff.1 hl4).1, hrec]; rfl
        · exact (World.putObj_heap_other (by omega)).trans (hd.trans hk2)
        · rw [World.putObj_heap_other (hS b hb), hs3 b hb, hW2, World.putObj_heap_other (hS b hb)]
      | ret => exact hp.elim
      | exit id => exact hp.elim
      | goto t => exact hp.elim
      | panic ch => exact hp.elim
      | outgrown => exact hp.elim
    · rintro e W2 ⟨⟨v, rfl⟩, hi, hl, hk⟩
      have hend := run_endLoop (P := P) hl (by rw [hrec]; simp)
      rw [hrec] at hend
      exact ⟨none, _, hend, hdone _ (hI _ _ _ _ hi (grownBy_putObj' _ _ _) (fun r e => by cases e; exact .inr rfl)) ((World.putObj_heap_other (by omega)).trans hk)⟩
end Go.Proofs.YtljppmpigijgaaaDoor.H
