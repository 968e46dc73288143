/- The contract of forward.Request in the form of the printed ones: what is sent on, of a request. -/
import Derived.Test.YthmpfncidpjnjaaDoorHZB
import Derived.Test.YthmpfncidpjnjaaDoorHV1
import Derived.Test.YthmpfncidpjnjaaDoorHZA
import Derived.Test.YthmpfncidpjnjaaDoorPx3
import Derived.Deep.RegionWith
import Derived.Deep.RegionHeld3
import Derived.OwnWalkIn
import Derived.TacticsInMore
namespace Go.Proofs.YthmpfncidpjnjaaDoor.H
open Go.RowKit Go.Shelf Go
attribute [local go_sem] Oper.semAt_some
/-- The law for a loop over an iterator of pairs, its temporaries told by the frame. -/
theorem rf_all2 {P : Program} {n : Nat} {g : Operand} {p q r : Tmp} {assign body : Code} {Q : Exit → Act → World → Prop} {T : Array Value} {df : List Deferred} {w : World}
    {gf : Nat} {lb : Array Value} (hg : (⟨T, df⟩ : Act).eval g = .func (.func gf) #[] lb) (eg : ∀ args w, (callFunc gf args).run P w = .ok (.enter gf args) w)
    (xs : List (Array Value)) (hxs : ∀ x ∈ xs, ∃ u v, x = #[u, v]) (B0 : Nat) (R S : Nat → Prop) (hS : ∀ b, S b → b ≠ w.heap.size + 1) (hR : ∀ r, R r → r ≠ w.heap.size ∧ r ≠ w.heap.size + 1)
    (hit : ∀ (J : Nat → World → Prop) (W : World), W.heap.size = w.heap.size + 2 → Below w.heap.size w W → Ab R J →
      (∀ k x W1, J k W1 → B0 ≤ W1.heap.size → xs[k]? = some x → YieldAt Fence.wide (n - 1 - 1) P (w.heap.size + 1) x W1 fun e W' => e = .returned (.bool true) ∧ J (k + 1) W' ∧ W1.heap.size ≤ W'.heap.size ∧ ∀ b, S b → W'.heap[b]? = W1.heap[b]?) →
      J 0 W → CallsIn Fence.wide (n - 1) P gf (#[.func (.yield (w.heap.size + 1)) #[] #[]] ++ lb) W fun e W' => (∃ v, e = .returned v) ∧ J xs.length W')
    (I : Nat → World → Prop) (hI : ∀ k A B row, I k A → A.grownBy B row → (∀ r, row = some r → R r ∨ r = w.heap.size + 1) → I k B) (h0 : I 0 w)
    (hassign : ∀ (l : Nat) (u v : Value), ∀ (W : World) (K : Act → World → Prop), K { tmps := ((T.setIfInBounds p u).setIfInBounds q v).setIfInBounds r v, defers := [] } W →
      assign.wpIn (Fence.wide.inRound l) (n - 1 - 1) P (Exit.then K (fun _ _ _ => False)) { tmps := (T.setIfInBounds p u).setIfInBounds q v, defers := [] } W)
    (hbody : ∀ (l k : Nat) (u v : Value) (W : World), I k W → xs[k]? = some #[u, v] → w.heap.size + 1 < W.heap.size → B0 ≤ W.heap.size →
      body.wpIn (Fence.wide.inRound l) (n - 1 - 1) P (rfPost w.heap.size (w.heap.size + 1) S (I (k + 1)) W) { tmps := ((T.setIfInBounds p u).setIfInBounds q v).setIfInBounds r v, defers := [] } W)
    (hdone : ∀ (W : World), I xs.length W → W.heap[w.heap.size]? = some (.deferred (some [])) → Q .normal ⟨T, { target := .collected w.heap.size, args := #[] } :: df⟩ W) :
    (Code.rangeFunc g #[p, q] assign body).wpIn Fence.wide n P Q ⟨T, df⟩ w := by
  refine rf_alln hg eg xs (fun x => (T.setIfInBounds p (x.getD 0 undef)).setIfInBounds q (x.getD 1 undef)) ?_ ?_ B0 R S hS hR hit I hI h0 (fun x => { tmps := ((T.setIfInBounds p (x.getD 0 undef)).setIfInBounds q (x.getD 1 undef)).setIfInBounds r (x.getD 1 undef), defers := [] }) ?_ ?_ hdone
  · intro x hx
    obtain ⟨u, v, rfl⟩ := hxs x hx
    simp
  · intro x hx
    obtain ⟨u, v, rfl⟩ := hxs x hx
    rfl
  · intro l x hx W K hK
    obtain ⟨u, v, rfl⟩ := hxs x hx
    exact hassign l u v W K hK
  · intro l k x W hi hx h1 h2
    obtain ⟨u, v, rfl⟩ := hxs x (List.mem_of_getElem? hx)
    exact hbody l k u v W hi hx h1 h2
theorem backward_any (A : Option Addr) (n c : Nat) (w : World) :
    Calls Tryd.prog 25 #[.slice A n c] w fun e w' => e = .returned (.func (.func 40) #[] #[.pointer (some ⟨w.heap.size, 0, none⟩)]) ∧ w' = w.alloc (.cells #[.slice A n c] 38) := by
  go_enter Tryd.func25, Tryd.ntmps25
  go_wp2
  go_ret
  exact ⟨rfl, rfl⟩
/-- ', ' -/
def sepB : ByteArray := ⟨#[44, 32]⟩
def whoStep (acc v : ByteArray) : ByteArray := if (!v.toList.isEmpty && decide (((v ++ sepB) ++ acc).size ≤ 200)) = true then (v ++ sepB) ++ acc else acc
def whoAt (g : List ByteArray) (t : ByteArray) (k : Nat) : ByteArray := (g.reverse.take k).foldl whoStep t
def whoAll (g : List ByteArray) (t : ByteArray) : ByteArray := g.reverse.foldl whoStep t
theorem whoAt_succ (g : List ByteArray) (t : ByteArray) (k j : Nat) (h : j + k + 1 = g.length) : whoAt g t (k + 1) = whoStep (whoAt g t k) (g.getD j ByteArray.empty) := by
  unfold whoAt
  have hk : k < g.reverse.length := by simp; omega
  rw [List.take_succ_eq_append_getElem hk, List.foldl_append]
  have e : g.reverse[k] = g.getD j ByteArray.empty := by
    rw [List.getElem_reverse, List.getD_eq_getElem?_getD, List.getElem?_eq_getElem (by omega)]
    simp
    congr 1
    omega
  rw [e]; rfl
theorem whoAt_all (g : List ByteArray) (t : ByteArray) : whoAt g t g.length = whoAll g t := by
  unfold whoAt whoAll
  rw [List.take_of_length_le (by simp)]
end Go.Proofs.YthmpfncidpjnjaaDoor.H
namespace Go.Proofs.YthmpfncidpjnjaaDoor.P
open Go.RowKit Go.Shelf Go.Lib Go.Proofs.YthmpfncidpjnjaaDoorW.PrintWords Go.Proofs.YthmpfncidpjnjaaDoorW.PrintLast Go.Proofs.YthmpfncidpjnjaaDoorW.PrintMore
attribute [local go_sem] Oper.semAt_some
/-- 'X-Forwarded-For' -/
def xffB : ByteArray := ⟨#[88, 45, 70, 111, 114, 119, 97, 114, 100, 101, 100, 45, 70, 111, 114]⟩
def smallT (l : List ByteArray) : Bool := l.all fun x => decide (x.size ≤ 4611686018427387904)
theorem smallT_at {l : List ByteArray} (h : smallT l = true) (k : Nat) : (l.getD k ByteArray.empty).size ≤ 4611686018427387904 := by
  unfold smallT at h
  rw [List.all_eq_true] at h
  rw [List.getD_eq_getElem?_getD]
  cases e : l[k]? with
  | none => simp
  | some x => simpa using h x (List.mem_of_getElem? e)
theorem whoAt_size (g : List ByteArray) (t : ByteArray) (k n : Nat) (ht : t.size ≤ n) (hn : 200 ≤ n) : (H.whoAt g t k).size ≤ n := by
  unfold H.whoAt
  generalize g.reverse.take k = l
  induction l generalizing t with
  | nil => exact ht
  | cons x l ih =>
    refine ih _ ?_
    unfold H.whoStep
    split
    · rename_i h
      simp only [Bool.and_eq_true, decide_eq_true_eq] at h
      omega
    · exact ht
def forward_Request.f (k : Nat) (a0_0 : ByteArray) (a0_1 : ByteArray) (a0_2 : Int) (a0_3 : ByteArray) (a0_4 : Int) (l0_5 : List S28) (a0_6 : ByteArray) (a1 : Int) : Option (ByteArray × ByteArray × Int × ByteArray × Int × (List (S28)) × ByteArray) :=
  (num_Text.f a1 10).bind fun t => (forward_strip.f k l0_5 []).bind fun s => (field_Get.f k s xffB).bind fun g =>
    if (smallT g && decide (t.size ≤ 1000000)) = true then (forward_strip.f k l0_5 [xffB]).bind fun s2 =>
      if s2.length < 4398046511104 then some (a0_0, a0_1, a0_2, a0_3, 1, s2 ++ [⟨xffB, H.whoAll g ((⟨#[99]⟩ : ByteArray) ++ t)⟩], a0_6) else none
    else none
theorem forward_Request.mono : ∀ a0 a1 a2 a3 a4 a5 a6 a7 k, LeO (forward_Request.f k a0 a1 a2 a3 a4 a5 a6 a7) (forward_Request.f (k + 1) a0 a1 a2 a3 a4 a5 a6 a7) := by
  intro a0 a1 a2 a3 a4 a5 a6 a7 k
  unfold forward_Request.f
  exact .bind (.refl _) fun t => .bind (forward_strip.mono _ _ _) fun s => .bind (field_Get.mono _ _ _) fun g => .ite (.bind (forward_strip.mono _ _ _) fun s2 => .refl _) (.refl _)
/-- A post that bears no panic serves. -/
def NoPanic (Q : Exit → Act → World → Prop) : Exit → Act → World → Prop
  | .panic _, _, _ => False
  | e, a, w => Q e a w
theorem no_panic {P : Program} {c : Code} {Q : Exit → Act → World → Prop} {a : Act} {w : World} (h : c.wp P (NoPanic Q) a w) : c.wp P Q a w := by
  refine wp_mono h ?_
  intro e a w h
  cases e <;> first | exact h | exact False.elim h
/-- An append of one element that lies in a block of its own, wherever. -/
theorem R_append_far {α : Type} (d : Kd α) {P : Program} {ops : Array Oper} {o : Oper} {a : Act} {Q : Exit → Act → World → Prop} {Kc : Act → World → Prop} {E : Prop} {w0 W : World} (base : Nat) (hgd : o.guard = none) (s x : Operand) (t e : TypeId) (z : Value) (bytes : Nat)
    (ho : o.op = .call { callee := .builtin .append, args := #[s, x], argTypes := #[t, t] })
    (ht : P.underlying t = some (.slice e)) (hinfo : (P.info? e).map (fun i => (i.zero, i.size, i.bytes)) = some (some z, d.sz, bytes)) (hz : z.cells.size = d.sz) (hs0 : 0 < d.sz)
    (v : Value) (xs : List α) (p : α) (cs : List Value) (g4 : Nat) (ok okp : Nat → Prop) (hs : a.eval s = v) (hx : a.eval x = .slice (some ⟨g4, 0, none⟩) 1 1) (hblk : W.heap[g4]? = some (.cells cs.toArray e (0, 0)))
    (hp : d.M W base okp p cs) (hokp : ∀ k, okp k → ok k ∧ some k ≠ v.ownBlock) (hfresh : ∀ k, W.heap.size ≤ k → ok k)
    (HO : d.R e W base ok v xs) (HB : Below base w0 W) (hbase : base ≤ W.heap.size) (hl : (xs.length + 1) * bytes ≤ 140737488355328) (hl2 : xs.length + 1 ≤ maxLen)
    (h : ∀ v1 w1, d.R e w1 base ok v1 (xs ++ [p]) → Below base w0 w1 → W.grownBy w1 v.ownBlock → Kc (a.put o.dst v1) w1) :
    if Region.wanted o (yielded ops a.tmps) = true then Oper.wp P o a W Kc Q else E := by
  obtain ⟨i, hi, hz0, hz1, hz2⟩ := info_parts hinfo
  obtain ⟨h0, inner, hown, hr⟩ := HO
  have hlen : cs.length = d.sz := d.K_len (d.K_of_M hp)
  refine step_append_lies W hgd s x t ho base e i z d.sz bytes ht hi hz0 hz1 hz2 hz hs0 v xs.length inner hs hown ⟨g4, 0, none⟩ 1 1 cs hx (by rw [hlen, Nat.one_mul]) (by have := World.news_of_block hblk; simpa using this) (d.K_one (d.K_of_M hp)) (by omega) hl2 hl hbase W.heap.size rfl ?_
  intro g cap w1 hown1 hgrow hat hlt
  have hat1 : (Value.slice (some ⟨g, 0, none⟩) (xs.length + 1) cap).ownBlock = v.ownBlock ∨ ∃ b, (Value.slice (some ⟨g, 0, none⟩) (xs.length + 1) cap).ownBlock = some b ∧ W.heap.size ≤ b := by
    rcases hat with e1 | e1
    · exact .inl (by rw [e1]; rfl)
    · exact .inr ⟨g, rfl, by omega⟩
  exact h _ w1 (Kd.R_appended h0 hr hp hokp hfresh hown1 hgrow hat1) (HB.grown hgrow hbase (own_base hown)) hgrow
/-- What holds between two rounds of the loop. -/
structure ReqAt (h b5 : Nat) (cs : Array Value) (g : List ByteArray) (t : ByteArray) (w : World) (k : Nat) (W : World) : Prop where
  b2 : W.heap[h]? = some (.cells cs 26 (0, 0))
  b4 : W.heap[h + 1]? = some (.cells #[.string ⟨#[]⟩, .string ⟨#[]⟩, .int .i64 0, .string ⟨#[]⟩, .int .i64 0, .slice none 0 0, .string ⟨#[]⟩] 26 (0, 0))
  s5 : W.heap[b5]? = some (.cells #[.string (H.whoAt g t k)] 9 (0, 0))
  bel : Below h w W
def forward_Request.T8 : Bool × List (List Nat × List Nat) := (true, [([], []), ([0], [0]), ([1], [1]), ([], []), ([2, 3], [2, 3]), ([], []), ([5], [5]), ([6], [6]), ([4, 7, 4], [4, 7]), ([0, 1, 2, 3, 4, 5, 6, 7, 8], []), ([9, 0, 1, 2, 3, 4, 5, 6, 7, 8], [9]), ([10, 8, 8, 0, 1, 2, 3, 4, 5, 6, 7, 8], [8, 10])])
def forward_Request.B8 : List Nat := [0, 1, 3, 0, 15, 0, 32, 96, 255, 511, 1023, 2047]
theorem forward_Request.tab8 : rtab .any (opsOf Tryd.f10 8) = forward_Request.T8 := by kernel_rfl
theorem forward_Request.bits8 : waitsOk forward_Request.T8.2 forward_Request.B8 = true := by kernel_rfl
set_option maxHeartbeats 4000000 in
set_option maxRecDepth 100000 in
theorem forward_Request.calls (k : Nat) (a0_0 : ByteArray) (a0_1 : ByteArray) (a0_2 : Int) (a0_3 : ByteArray) (a0_4 : Int) (A0_5 : Option Addr) (c0_5 : Nat) (l0_5 : List (S28)) (a0_6 : ByteArray) (a1 : Int) (r1 : ByteArray) (r2 : ByteArray) (r3 : Int) (r4 : ByteArray) (r5 : Int) (r6 : List (S28)) (r7 : ByteArray) (w : World) (hr0_5 : Kd.C k28 w A0_5 l0_5.length l0_5) (hc0_5 : l0_5.length ≤ c0_5) (hG_ : H.GlobOk w) (h : forward_Request.f k a0_0 a0_1 a0_2 a0_3 a0_4 l0_5 a0_6 a1 = some (r1, r2, r3, r4, r5, r6, r7)) :
    Calls Tryd.prog 10 #[.agg #[.string a0_0, .string a0_1, .int .i64 a0_2, .string a0_3, .int .i64 a0_4, .slice A0_5 l0_5.length c0_5, .string a0_6], .int .i64 a1] w fun e w' => ∃ v5_ : Value, e = .returned (.agg #[.string r1, .string r2, .int .i64 r3, .string r4, .int .i64 r5, v5_, .string r7]) ∧ Kd.R k28 28 w' w.heap.size (fun _ => True) v5_ r6 ∧ Below w.heap.size w w' := by
  unfold forward_Request.f at h
  rw [Option.bind_eq_some_iff] at h
  obtain ⟨t, h1, h⟩ := h
  rw [Option.bind_eq_some_iff] at h
  obtain ⟨s, h2, h⟩ := h
  rw [Option.bind_eq_some_iff] at h
  obtain ⟨g, h3, h⟩ := h
  split at h
  case isFalse => cases h
  case isTrue hsm =>
  rw [Option.bind_eq_some_iff] at h
  obtain ⟨s2, h4, h⟩ := h
  split at h
  case isFalse => cases h
  case isTrue hs2 =>
  simp only [Option.some.injEq, Prod.mk.injEq] at h
  obtain ⟨rfl, rfl, rfl, rfl, rfl, rfl, rfl⟩ := h
  simp only [Bool.and_eq_true, decide_eq_true_eq] at hsm
  obtain ⟨hsg, hst⟩ := hsm
  have H1 := Lib.hid h1
  have H2 := Lib.hid h2
  have H3 := Lib.hid h3
  have H4 := Lib.hid h4
  have HSG := Lib.hid hsg
  have HS2 := Lib.hid hs2
  have HR := Lib.hid hr0_5
  have HC := Lib.hid hc0_5
  have HG := Lib.hid hG_
  have hB0 := Lib.hid (Below.refl w.heap.size w)
  clear h1 h2 h3 h4 hsg hs2 hr0_5 hc0_5 hG_
  refine (callsIn_wide (n := 9)).1 (callsIn_of_wp_marks Tryd.func10 rfl trivial ?_ rfl)
  rw [wpIn_wide]
  simp only [Tryd.ntmps10, List.size_toArray, List.length_cons, List.length_nil, Nat.reduceAdd, Nat.reduceSub, Array.replicate_succ, Array.replicate_zero, List.push_toArray, List.append_toArray, List.nil_append, List.cons_append]
  obtain ⟨bb, hh⟩ : ∃ bb, bb = w.heap.size := ⟨_, rfl⟩
  go_wp2_with fail
  obtain ⟨W0, hW0⟩ : ∃ W0, W0 = (w.alloc (.cells #[.string a0_0, .string a0_1, .int .i64 a0_2, .string a0_3, .int .i64 a0_4, .slice A0_5 l0_5.length c0_5, .string a0_6] 26)).alloc (.cells #[.string ⟨#[]⟩, .string ⟨#[]⟩, .int .i64 0, .string ⟨#[]⟩, .int .i64 0, .slice none 0 0, .string ⟨#[]⟩] 26) := ⟨_, rfl⟩
  obtain ⟨q0, q1⟩ := two_blocks w (.cells #[.string a0_0, .string a0_1, .int .i64 a0_2, .string a0_3, .int .i64 a0_4, .slice A0_5 l0_5.length c0_5, .string a0_6] 26) (.cells #[.string ⟨#[]⟩, .string ⟨#[]⟩, .int .i64 0, .string ⟨#[]⟩, .int .i64 0, .slice none 0 0, .string ⟨#[]⟩] 26)
  have hsz0 : W0.heap.size = bb + 2 := by rw [hW0, hh]; simp
  have hb0 : Below bb w W0 := by rw [hW0, hh]; exact below_alloc (below_alloc (Below.refl _ _) _) _
  rw [← hW0, ← hh] at q0 q1
  rw [← hW0]
  simp only [← hh]
  refine (num_Text.calls a1 10 t W0 (HG.out.below (by rw [← hh]; exact hb0)) H1.out).mono ?_; rintro e w1 ⟨rfl, hB1⟩
  have hb1 : Below bb w w1 := hb0.trans (hB1.mono (by omega))
  have hsz1 : bb + 1 < w1.heap.size := by have := hB1.size; omega
  have p0 := (hB1.block bb (by omega)).trans q0
  have p1 := (hB1.block (bb + 1) (by omega)).trans q1
  have Hb1 := Lib.hid hb1
  have P0 := Lib.hid p0
  have P1 := Lib.hid p1
  have HH := Lib.hid hh
  have hc5 : w1.cell? ⟨bb, 5, none⟩ = some (.slice A0_5 l0_5.length c0_5) := by unfold World.cell?; rw [p0]; rfl
  have hsz2 : bb < w1.heap.size := by omega
  have hsz : 1 + t.size ≤ 9223372036854775807 := by omega
  clear hW0 hsz0 q0 q1 hB1 hb0 hb1 p0 p1 hh
  go_wp2_with fail
  obtain ⟨b5, hb5⟩ : ∃ b5, b5 = w1.heap.size := ⟨_, rfl⟩
  obtain ⟨W2, hW2⟩ : ∃ W2, W2 = w1.alloc (.cells #[.string ((⟨#[99]⟩ : ByteArray) ++ t)] 9) := ⟨_, rfl⟩
  have y5 : W2.heap[b5]? = some (.cells #[.string ((⟨#[99]⟩ : ByteArray) ++ t)] 9 (0, 0)) := by rw [hW2, hb5]; exact heap_alloc_new w1 _
  have hbw : Below w1.heap.size w1 W2 := by rw [hW2]; exact below_alloc (Below.refl _ _) _
  have y2 := (hbw.block bb (by omega)).trans P0.out
  have y4 := (hbw.block (bb + 1) (by omega)).trans P1.out
  have hb2 : Below bb w W2 := Hb1.out.trans (hbw.mono (by omega))
  have hz2 : W2.heap.size = b5 + 1 := by rw [hW2, hb5]; simp
  have hlt : bb + 1 < b5 := by omega
  rw [← hW2]
  simp only [← hb5]
  have hbW : Below w.heap.size w W2 := by rw [← HH.out]; exact hb2
  refine (forward_strip.calls k A0_5 c0_5 l0_5 none 0 [] s W2 (Kd.C_below HR.out hbW) HC.out (Kd.C_nil _ _) (Nat.le_refl 0) H2.out).mono ?_; rintro e w3 ⟨v3, rfl, hR3, hB3⟩
  obtain ⟨A3, c3, rfl, hAc3, hA3⟩ := Kd.R_reads hR3
  have HA3 := Lib.hid hA3
  have HAc3 := Lib.hid hAc3
  have HB3 := Lib.hid hB3
  have Y5 := Lib.hid y5
  have Y2 := Lib.hid y2
  have Y4 := Lib.hid y4
  have HZ2 := Lib.hid hz2
  have HLT := Lib.hid hlt
  have HB2 := Lib.hid hb2
  clear hR3 hA3 hAc3 hB3 hW2 hb5 y5 y2 y4 hbw hz2 hlt hb2 hbW hsz hsz1 hsz2 hc5 Hb1 P0 P1
  go_wp2_with fail
  refine (field_Get.calls k A3 c3 s xffB g w3 HA3.out HAc3.out H3.out).mono ?_; rintro e w4 ⟨v4, rfl, hR4, hB4⟩
  obtain ⟨A4, c4, rfl, hAc4, hA4⟩ := Kd.R_reads hR4
  have HR4 := Lib.hid hR4
  have HA4 := Lib.hid hA4
  have HAc4 := Lib.hid hAc4
  have hB34 := HB3.out.trans (hB4.mono HB3.out.size)
  have HB4 := Lib.hid hB34
  clear hR4 hA4 hAc4 hB4 hB34
  go_wp2_with fail
  refine (H.backward_any A4 g.length c4 w4).mono ?_; rintro e w5 ⟨rfl, rfl⟩
  go_wp2_with fail
  obtain ⟨W6, hW6⟩ : ∃ W6, W6 = w4.alloc (.cells #[.slice A4 g.length c4] 38) := ⟨_, rfl⟩
  have hz6 : W6.heap.size = w4.heap.size + 1 := by rw [hW6]; simp
  have hz4 : b5 + 1 ≤ w4.heap.size := by have := HB4.out.size; have := HZ2.out; omega
  have hb6 : Below W2.heap.size W2 W6 := by rw [hW6]; exact below_alloc HB4.out _
  have bl6 : Below bb w W6 := HB2.out.trans (hb6.mono (by have := HZ2.out; have := HLT.out; omega))
  have u2 := (hb6.block bb (by have := HZ2.out; have := HLT.out; omega)).trans Y2.out
  have u4 := (hb6.block (bb + 1) (by have := HZ2.out; have := HLT.out; omega)).trans Y4.out
  have u5 := (hb6.block b5 (by have := HZ2.out; omega)).trans Y5.out
  have up : W6.heap[w4.heap.size]? = some (.cells #[.slice A4 g.length c4] 38 (0, 0)) := by rw [hW6]; exact heap_alloc_new w4 _
  have hA6 : Kd.C Kd.string W6 A4 g.length g := by rw [hW6]; exact Kd.C_alloc HA4.out _
  have hltA : ∀ ad, A4 = some ad → ad.block < W6.heap.size ∧ ad.block ≠ b5 := fun ad e => by
    subst e
    have h1 := Kd.R_lt HR4.out ad.block (by simp [Value.ownBlock])
    have h2 := Kd.R_base HR4.out ad.block (by simp [Value.ownBlock])
    have h3 := HB3.out.size
    have h4 := HZ2.out
    omega
  rw [← hW6, ← wpIn_wide (n := 9)]
  refine H.rf_all2 (gf := 40) (lb := #[.pointer (some ⟨w4.heap.size, 0, none⟩)]) (r := 7) rfl (enters_of Tryd.func40 (by kernel_rfl) rfl)
    (H.vback g) (fun x hx => by simp only [H.vback, List.mem_map] at hx; obtain ⟨k, _, rfl⟩ := hx; exact ⟨_, _, rfl⟩) 0 (fun _ => False) (fun b => b < W6.heap.size ∧ b ≠ b5) (fun b hb => by omega) (fun r hr => hr.elim)
    (fun J W hsz hB hA hY h0 => H.back_in (9 - 1) (W6.heap.size + 1) w4.heap.size g A4 c4 (fun b => b < W6.heap.size ∧ b ≠ b5) J W
      ((World.cell?_of_block (a := ⟨w4.heap.size, 0, none⟩) (hB.block w4.heap.size (by omega))).trans (H.cell_of_heap up)) HAc4.out (Kd.C_below hA6 hB) ⟨by omega, by omega⟩ hltA
      (fun k x W1 hj hx => YieldAt.mono (hY k x W1 hj (Nat.zero_le _) hx) (fun e W' hq => ⟨hq.1, hq.2.1, hq.2.2.2⟩)) h0)
    (ReqAt bb b5 #[.string a0_0, .string a0_1, .int .i64 a0_2, .string a0_3, .int .i64 a0_4, .slice A0_5 l0_5.length c0_5, .string a0_6] g ((⟨#[99]⟩ : ByteArray) ++ t) w) ?_ ⟨u2, u4, u5, bl6⟩ ?_ ?_ ?_
  · rintro k A B row ⟨x2, x4, x5, xb⟩ hg hrow
    have hrow' : ∀ r, row = some r → r = W6.heap.size + 1 := fun r e => (hrow r e).elim (fun z => z.elim) (fun z => z)
    have hl := HLT.out
    exact ⟨(hg.block bb (Array.getElem?_eq_some_iff.1 x2).1 (fun e => by have := hrow' bb e.symm; omega)).trans x2, (hg.block (bb + 1) (Array.getElem?_eq_some_iff.1 x4).1 (fun e => by have := hrow' (bb + 1) e.symm; omega)).trans x4,
      (hg.block b5 (Array.getElem?_eq_some_iff.1 x5).1 (fun e => by have := hrow' b5 e.symm; omega)).trans x5, xb.grown hg (by have := (Array.getElem?_eq_some_iff.1 x2).1; omega) (fun k e => by have := hrow' k e; omega)⟩
  · intro l u v W K hK
    gi_wp2
    exact hK
  · rintro l j u v W hi hx hlt hB0
    have hjl : j < g.length := by
      have := (List.getElem?_eq_some_iff.1 hx).1
      rwa [H.vback_len] at this
    obtain ⟨q, hq⟩ : ∃ q, q + j + 1 = g.length := ⟨g.length - 1 - j, by omega⟩
    rw [H.vback_at g j q hq] at hx
    injection hx with hx
    have hu : Value.int .i64 (q : Int) = u ∧ Value.string (g.getD q ByteArray.empty) = v := by simpa using hx
    obtain ⟨rfl, rfl⟩ := hu
    obtain ⟨x2, x4, x5, xb⟩ := hi
    have hstep := H.whoAt_succ g ((⟨#[99]⟩ : ByteArray) ++ t) j q hq
    have hacc := whoAt_size g ((⟨#[99]⟩ : ByteArray) ++ t) j 1000001 (by rw [ByteArray.size_append]; show 1 + t.size ≤ _; omega) (by omega)
    have hxs := smallT_at HSG.out q
    generalize H.whoAt g ((⟨#[99]⟩ : ByteArray) ++ t) j = acc at hstep hacc x5
    generalize g.getD q ByteArray.empty = x at hstep hxs
    have c5 := H.cell_of_heap x5
    have f5 := H.frozen_of_heap x5
    have s1 : x.size + 2 ≤ 9223372036854775807 := by omega
    have s2 : (x ++ (⟨#[44, 32]⟩ : ByteArray)).size + acc.size ≤ 9223372036854775807 := by rw [ByteArray.size_append]; show x.size + 2 + _ ≤ _; omega
    have HST := Lib.hid hstep
    have X2 := Lib.hid x2
    have X4 := Lib.hid x4
    have X5 := Lib.hid x5
    have XB := Lib.hid xb
    have hl := HLT.out
    clear hx hstep x2 x4 x5 hacc hxs xb
    by_cases he : x.toList = []
    · have e1 : (x.toList == ([] : List UInt8)) = true := by simpa using he
      have e2 : (x.toList != ([] : List UInt8)) = false := by simpa using he
      have e3 : H.whoStep acc x = acc := by unfold H.whoStep; rw [he]; simp
      have E3 := Lib.hid e3
      clear e3
      gi_wp2_with fail
      refine ⟨Nat.le_refl _, rfl, rfl, fun _ _ => rfl, X2.out, X4.out, ?_, XB.out⟩
      rw [HST.out, E3.out]; exact X5.out
    · have e1 : (x.toList == ([] : List UInt8)) = false := by simpa using he
      have e2 : (x.toList != ([] : List UInt8)) = true := by simpa using he
      have e4 : x.toList.isEmpty = false := by simpa using he
      have hsum : ((x ++ (⟨#[44, 32]⟩ : ByteArray)) ++ acc).size = x.size + 2 + acc.size := by rw [ByteArray.size_append, ByteArray.size_append]; rfl
      by_cases h200 : ((x ++ (⟨#[44, 32]⟩ : ByteArray)) ++ acc).size ≤ 200
      · have d2 : decide ((x.size : Int) + 2 + (acc.size : Int) ≤ 200) = true := decide_eq_true (by rw [hsum] at h200; omega)
        have e3 : H.whoStep acc x = (x ++ (⟨#[44, 32]⟩ : ByteArray)) ++ acc := by unfold H.whoStep; rw [e4, if_pos (by simp only [Bool.not_false, Bool.true_and, decide_eq_true_eq]; exact h200)]; rfl
        have E3 := Lib.hid e3
        clear e3 h200 e4 hsum
        gi_wp2_with fail
        have hq3 : ∀ b u, b ≠ b5 → (W.setCell ⟨b5, 0, none⟩ u).heap[b]? = W.heap[b]? := fun b u hb => Below.heap_setCell W ⟨b5, 0, none⟩ u b hb
        refine ⟨by simp [World.setCell], hq3 _ _ (by omega), hq3 _ _ (by omega), fun b hb => hq3 b _ hb.2, (hq3 _ _ (by omega)).trans X2.out, (hq3 _ _ (by omega)).trans X4.out, ?_, XB.out.setCell (by show bb ≤ b5; omega) _⟩
        rw [HST.out, E3.out]
        exact one_setCell X5.out
      · have d2 : decide ((x.size : Int) + 2 + (acc.size : Int) ≤ 200) = false := decide_eq_false (by rw [hsum] at h200; omega)
        have e3 : H.whoStep acc x = acc := by unfold H.whoStep; rw [if_neg]; simp only [Bool.and_eq_true, decide_eq_true_eq, not_and]; exact fun _ => h200
        have E3 := Lib.hid e3
        clear e3 h200 e4 hsum
        gi_wp2_with fail
        refine ⟨Nat.le_refl _, rfl, rfl, fun _ _ => rfl, X2.out, X4.out, ?_, XB.out⟩
        rw [HST.out, E3.out]; exact X5.out
  · rintro W hi hd
    rw [H.vback_len] at hi
    obtain ⟨x2, x4, x5, xb⟩ := hi
    rw [H.whoAt_all] at x5
    obtain ⟨who, hwho⟩ : ∃ who, who = H.whoAll g ((⟨#[99]⟩ : ByteArray) ++ t) := ⟨_, rfl⟩
    rw [← hwho] at x5
    have HWHO := Lib.hid hwho
    clear hwho
    have c20 := blk_cell x2 0
    have hlt2 := (Array.getElem?_eq_some_iff.1 x2).1
    have hlt4 := (Array.getElem?_eq_some_iff.1 x4).1
    have hlt5 := (Array.getElem?_eq_some_iff.1 x5).1
    have c24 := (blk_cell x2 4).trans rfl
    have f24 := blk_frozen x2 4
    go_wp2_with fail
    obtain ⟨W7, hW7⟩ : ∃ W7, W7 = W.setCell ⟨bb, 4, none⟩ (.int .i64 1) := ⟨_, rfl⟩
    have hl := HLT.out
    have hq3 : ∀ b, b ≠ bb → W7.heap[b]? = W.heap[b]? := fun b hb => by rw [hW7]; exact Below.heap_setCell W ⟨bb, 4, none⟩ _ b hb
    have z2 : W7.heap[bb]? = some (.cells #[.string a0_0, .string a0_1, .int .i64 a0_2, .string a0_3, .int .i64 1, .slice A0_5 l0_5.length c0_5, .string a0_6] 26 (0, 0)) := by rw [hW7]; exact blk_put x2 4 _ rfl
    have z4 := (hq3 (bb + 1) (by omega)).trans x4
    have z5 := (hq3 b5 (by omega)).trans x5
    have zd := (hq3 W6.heap.size (by omega)).trans hd
    have zb : Below bb w W7 := by rw [hW7]; exact xb.setCell (Nat.le_refl _) _
    rw [← hW7]
    have k5 : W7.cell? ⟨bb, 5, none⟩ = some (.slice A0_5 l0_5.length c0_5) := blk_cell z2 5
    have k0 := H.cell_of_heap z5
    clear hW7 hq3 c24 f24 c20 hlt2 hlt4 hlt5 x2 x4 x5 xb hd
    have hbz : Below w.heap.size w W7 := by rw [← HH.out]; exact zb
    have hrf := Below.refl W7.heap.size W7
    have HBZ := Lib.hid hbz
    have HRF := Lib.hid hrf
    have KS := fun V (hV : Below W7.heap.size W7 V) A1 (h1 : Kd.C Kd.string V A1 1 [xffB]) => Lib.hid (forward_strip.calls k A0_5 c0_5 l0_5 A1 1 [xffB] s2 V (Kd.C_below HR.out (HBZ.out.trans (hV.mono HBZ.out.size))) HC.out h1 (Nat.le_refl 1) H4.out)
    have HKS := Lib.hid KS
    have Z2 := Lib.hid z2
    have Z4 := Lib.hid z4
    have Z5 := Lib.hid z5
    have ZD := Lib.hid zd
    clear z2 z4 z5 zd hbz hrf KS u2 u4 u5 up hA6 hltA hb6 bl6 zb
    have HKP := Lib.hid (show ∀ V, Below W7.heap.size W7 V → V.cell? ⟨bb, 5, none⟩ = some (.slice A0_5 l0_5.length c0_5) ∧ V.cell? ⟨b5, 0, none⟩ = some (.string who) from fun V hV =>
      ⟨(hV.cell (World.block_lt_of_cell? W7 _ k5)).trans k5, (hV.cell (World.block_lt_of_cell? W7 _ k0)).trans k0⟩)
    have HSZ := Lib.hid (show s2.length + 1 ≤ maxLen ∧ (s2.length + 1) * 32 ≤ 140737488355328 from ⟨by have := HS2.out; unfold maxLen; omega, by have := HS2.out; omega⟩)
    refine no_panic ?_
    refine start_ (n := 12) (S := fun w' => w'.cell? ⟨bb, 5, none⟩ = some (.slice A0_5 l0_5.length c0_5) ∧ w'.cell? ⟨b5, 0, none⟩ = some (.string who)) (ds := [11]) #[false, false, false, false, false, false, false, false, false, false, false, false] (by kernel_rfl) rfl rfl (HKP.out _ (below_drew1 HRF.out)) (fun hHeld => ?_); refine with_tabW forward_Request.tab8 forward_Request.bits8 (fun HT_ HW_ => ?_)
    have HB0 := Lib.hid (below_drew1 HRF.out)
    generalize W7.drew = V0 at HB0 hHeld ⊢
    refine pure_ (i := 0) (N := some 34) (v := ?_) (a' := ?_) #[true, false, false, false, false, false, false, false, false, false, false, false] rfl rfl (any_of HT_.out (by kernel_rfl)) (fun _ _ _ h => h) (Or.inl ⟨by rfl, ?_⟩) ?_ ?_
    rotate_left
    · intro w'
      go_simp
      with_reducible rfl
    rotate_left
    · simp only [Act.put, List.setIfInBounds_toArray, List.set_cons_zero, List.set_cons_succ, i64_w, i32_w]
      rfl
    refine pure_ (i := 1) (N := some 35) (v := ?_) (a' := ?_) #[true, true, false, false, false, false, false, false, false, false, false, false] rfl rfl (any_of HT_.out (by kernel_rfl)) (fun _ _ _ h => h) (Or.inl ⟨by rfl, ?_⟩) ?_ ?_
    rotate_left
    · intro w'
      go_simp
      with_reducible rfl
    rotate_left
    · simp only [Act.put, List.setIfInBounds_toArray, List.set_cons_zero, List.set_cons_succ, i64_w, i32_w]
      rfl
    refine take_ (i := 5) (N := some 39) (v := ?_) (a' := ?_) #[true, true, false, false, false, true, false, false, false, false, false, false] rfl rfl (take_ofW HT_.out HW_.out (by kernel_rfl)) (fun _ _ _ h => h) (Or.inl ⟨by rfl, ?_⟩) hHeld ?_ ?_
    rotate_left
    · rintro w' ⟨s0, s1⟩
      go_simp
      with_reducible rfl
    rotate_left
    · simp only [Act.put, List.setIfInBounds_toArray, List.set_cons_zero, List.set_cons_succ, i64_w, i32_w]
      rfl
    refine pure_ (i := 6) (N := some 40) (v := ?_) (a' := ?_) #[true, true, false, false, false, true, true, false, false, false, false, false] rfl rfl (any_of HT_.out (by kernel_rfl)) (fun _ _ _ h => h) (Or.inl ⟨by rfl, ?_⟩) ?_ ?_
    rotate_left
    · intro w'
      go_simp
      with_reducible rfl
    rotate_left
    · simp only [Act.put, List.setIfInBounds_toArray, List.set_cons_zero, List.set_cons_succ, i64_w, i32_w]
      rfl
    refine take_ (i := 2) (N := some 36) (v := ?_) (a' := ?_) #[true, true, true, false, false, true, true, false, false, false, false, false] rfl rfl (take_ofW HT_.out HW_.out (by kernel_rfl)) (fun _ _ _ h => h) (Or.inl ⟨by rfl, ?_⟩) hHeld ?_ ?_
    rotate_left
    · rintro w' ⟨s0, s1⟩
      go_simp
      with_reducible rfl
    rotate_left
    · simp only [Act.put, List.setIfInBounds_toArray, List.set_cons_zero, List.set_cons_succ, i64_w, i32_w]
      rfl
    refine join_ (σ := Value × Value × Value) 4 #[true, true, true, true, true, true, true, true, false, false, false, false] (fun s_ => [(37, s_.1), (38, s_.2.1), (41, s_.2.2)]) (fun s_ w' => (w'.cell? ⟨bb, 5, none⟩ = some (.slice A0_5 l0_5.length c0_5) ∧ w'.cell? ⟨b5, 0, none⟩ = some (.string who)) ∧ Below W7.heap.size W7 w' ∧ Kd.R k28 28 w' W7.heap.size (fun _ => True) s_.2.1 s2 ∧ ∃ g4, s_.2.2 = .slice (some ⟨g4, 0, none⟩) 1 1 ∧ w'.heap[g4]? = some (.cells #[.string xffB, .string who] 28 (0, 0))) ?_ ?_
    rotate_left
    · intro hCont
      refine two_ (i := 3) (j := 7) (Ni := some 37) (Nj := some 41) #[true, true, true, true, false, true, true, false, false, false, false, false] #[true, true, true, false, false, true, true, true, false, false, false, false] rfl rfl rfl rfl (two_of HT_.out (by kernel_rfl)) (by decide) (by decide) (fun K hK => ?_) (fun K hK => ?_)
      · refine event_step (v := .slice (some ⟨(V0).heap.size, 0, none⟩) 1 1) (w1 := (V0).alloc (.cells #[.string xffB] 9)) (by rfl) (by first | (go_simp; done) | (go_simp; rfl)) ?_
        refine hK.out _ _ (HKP.out _ (below_alloc HB0.out _)) (fun hHeld => ?_)
        clear hK K
        refine norm_ (a' := ?_) ?_ ?_
        rotate_left
        · show Act.put _ (some 37) _ = _
          simp only [Act.put, List.setIfInBounds_toArray, List.set_cons_zero, List.set_cons_succ, i64_w, i32_w]
          rfl
        refine two_ (i := 4) (j := 7) (Ni := some 38) (Nj := some 41) #[true, true, true, true, true, true, true, false, false, false, false, false] #[true, true, true, true, false, true, true, true, false, false, false, false] rfl rfl rfl rfl (two_of HT_.out (by kernel_rfl)) (by decide) (by decide) (fun K hK => ?_) (fun K hK => ?_)
        · refine goes_ Tryd.func27 (by kernel_rfl) rfl #[.slice A0_5 l0_5.length c0_5, .slice (some ⟨V0.heap.size, 0, none⟩) 1 1] (by rfl) rfl rfl (by (try simp only [List.map_toArray, List.map_cons, List.map_nil]); first | done | rfl) ?_
          refine (HKS.out ((V0.alloc (.cells #[.string xffB] 9))) (below_alloc HB0.out _) _ (C_one V0 xffB)).out.mono ?_; rintro e V2 ⟨v9, rfl, hR9, hB9⟩
          refine ⟨_, rfl, ?_⟩
          refine hK.out _ _ (HKP.out _ (below_step (below_alloc HB0.out _) hB9)) (fun hHeld => ?_)
          clear hK K
          refine norm_ (a' := ?_) ?_ ?_
          rotate_left
          · show Act.put _ (some 38) _ = _
            simp only [Act.put, List.setIfInBounds_toArray, List.set_cons_zero, List.set_cons_succ, i64_w, i32_w]
            rfl
          refine one_ (i := 7) (N := some 41) #[true, true, true, true, true, true, true, true, false, false, false, false] rfl rfl (one_of HT_.out (by kernel_rfl)) (by decide) (fun K hK => ?_)
          refine event_step (v := .slice (some ⟨(V2).heap.size, 0, none⟩) 1 1) (w1 := (V2).alloc (.cells #[.string xffB, .string who] 28)) (by rfl) (by first | (go_simp; done) | (go_simp; rfl)) ?_
          refine hK.out _ _ (HKP.out _ (below_alloc (below_step (below_alloc HB0.out _) hB9) _)) (fun hHeld => ?_)
          clear hK K
          refine norm_ (a' := ?_) ?_ ?_
          rotate_left
          · show Act.put _ (some 41) _ = _
            simp only [Act.put, List.setIfInBounds_toArray, List.set_cons_zero, List.set_cons_succ, i64_w, i32_w]
            rfl
          exact norm_ (by simp only [putAll, Act.put, List.setIfInBounds_toArray, List.set_cons_zero, List.set_cons_succ]) (hCont (.slice (some ⟨V0.heap.size, 0, none⟩) 1 1, v9, .slice (some ⟨V2.heap.size, 0, none⟩) 1 1) _ ⟨hHeld, below_alloc (below_step (below_alloc HB0.out _) hB9) _, Kd.R_lower (Kd.R_alloc hR9 _) (below_alloc HB0.out _).size, _, rfl, heap_alloc_new V2 _⟩)
        · refine event_step (v := .slice (some ⟨((V0.alloc (.cells #[.string xffB] 9))).heap.size, 0, none⟩) 1 1) (w1 := ((V0.alloc (.cells #[.string xffB] 9))).alloc (.cells #[.string xffB, .string who] 28)) (by rfl) (by first | (go_simp; done) | (go_simp; rfl)) ?_
          refine hK.out _ _ (HKP.out _ (below_alloc (below_alloc HB0.out _) _)) (fun hHeld => ?_)
          clear hK K
          refine norm_ (a' := ?_) ?_ ?_
          rotate_left
          · show Act.put _ (some 41) _ = _
            simp only [Act.put, List.setIfInBounds_toArray, List.set_cons_zero, List.set_cons_succ, i64_w, i32_w]
            rfl
          refine one_ (i := 4) (N := some 38) #[true, true, true, true, true, true, true, true, false, false, false, false] rfl rfl (one_of HT_.out (by kernel_rfl)) (by decide) (fun K hK => ?_)
          refine goes_ Tryd.func27 (by kernel_rfl) rfl #[.slice A0_5 l0_5.length c0_5, .slice (some ⟨V0.heap.size, 0, none⟩) 1 1] (by rfl) rfl rfl (by (try simp only [List.map_toArray, List.map_cons, List.map_nil]); first | done | rfl) ?_
          refine (HKS.out (((V0.alloc (.cells #[.string xffB] 9)).alloc (.cells #[.string xffB, .string who] 28))) (below_alloc (below_alloc HB0.out _) _) _ (Kd.C_alloc (C_one V0 xffB) _)).out.mono ?_; rintro e V2 ⟨v9, rfl, hR9, hB9⟩
          refine ⟨_, rfl, ?_⟩
          refine hK.out _ _ (HKP.out _ (below_step (below_alloc (below_alloc HB0.out _) _) hB9)) (fun hHeld => ?_)
          clear hK K
          refine norm_ (a' := ?_) ?_ ?_
          rotate_left
          · show Act.put _ (some 38) _ = _
            simp only [Act.put, List.setIfInBounds_toArray, List.set_cons_zero, List.set_cons_succ, i64_w, i32_w]
            rfl
          exact norm_ (by simp only [putAll, Act.put, List.setIfInBounds_toArray, List.set_cons_zero, List.set_cons_succ]) (hCont (.slice (some ⟨V0.heap.size, 0, none⟩) 1 1, v9, .slice (some ⟨(V0.alloc (.cells #[.string xffB] 9)).heap.size, 0, none⟩) 1 1) _ ⟨hHeld, below_step (below_alloc (below_alloc HB0.out _) _) hB9, Kd.R_lower hR9 (below_alloc (below_alloc HB0.out _) _).size, _, rfl, (hB9.block _ (by first | (simp; done) | (simp; omega))).trans (heap_alloc_new (V0.alloc (.cells #[.string xffB] 9)) _)⟩)
      · refine event_step (v := .slice (some ⟨(V0).heap.size, 0, none⟩) 1 1) (w1 := (V0).alloc (.cells #[.string xffB, .string who] 28)) (by rfl) (by first | (go_simp; done) | (go_simp; rfl)) ?_
        refine hK.out _ _ (HKP.out _ (below_alloc HB0.out _)) (fun hHeld => ?_)
        clear hK K
        refine norm_ (a' := ?_) ?_ ?_
        rotate_left
        · show Act.put _ (some 41) _ = _
          simp only [Act.put, List.setIfInBounds_toArray, List.set_cons_zero, List.set_cons_succ, i64_w, i32_w]
          rfl
        refine one_ (i := 3) (N := some 37) #[true, true, true, true, false, true, true, true, false, false, false, false] rfl rfl (one_of HT_.out (by kernel_rfl)) (by decide) (fun K hK => ?_)
        refine event_step (v := .slice (some ⟨((V0.alloc (.cells #[.string xffB, .string who] 28))).heap.size, 0, none⟩) 1 1) (w1 := ((V0.alloc (.cells #[.string xffB, .string who] 28))).alloc (.cells #[.string xffB] 9)) (by rfl) (by first | (go_simp; done) | (go_simp; rfl)) ?_
        refine hK.out _ _ (HKP.out _ (below_alloc (below_alloc HB0.out _) _)) (fun hHeld => ?_)
        clear hK K
        refine norm_ (a' := ?_) ?_ ?_
        rotate_left
        · show Act.put _ (some 37) _ = _
          simp only [Act.put, List.setIfInBounds_toArray, List.set_cons_zero, List.set_cons_succ, i64_w, i32_w]
          rfl
        refine one_ (i := 4) (N := some 38) #[true, true, true, true, true, true, true, true, false, false, false, false] rfl rfl (one_of HT_.out (by kernel_rfl)) (by decide) (fun K hK => ?_)
        refine goes_ Tryd.func27 (by kernel_rfl) rfl #[.slice A0_5 l0_5.length c0_5, .slice (some ⟨(V0.alloc (.cells #[.string xffB, .string who] 28)).heap.size, 0, none⟩) 1 1] (by rfl) rfl rfl (by (try simp only [List.map_toArray, List.map_cons, List.map_nil]); first | done | rfl) ?_
        refine (HKS.out (((V0.alloc (.cells #[.string xffB, .string who] 28)).alloc (.cells #[.string xffB] 9))) (below_alloc (below_alloc HB0.out _) _) _ (C_one (V0.alloc (.cells #[.string xffB, .string who] 28)) xffB)).out.mono ?_; rintro e V2 ⟨v9, rfl, hR9, hB9⟩
        refine ⟨_, rfl, ?_⟩
        refine hK.out _ _ (HKP.out _ (below_step (below_alloc (below_alloc HB0.out _) _) hB9)) (fun hHeld => ?_)
        clear hK K
        refine norm_ (a' := ?_) ?_ ?_
        rotate_left
        · show Act.put _ (some 38) _ = _
          simp only [Act.put, List.setIfInBounds_toArray, List.set_cons_zero, List.set_cons_succ, i64_w, i32_w]
          rfl
        exact norm_ (by simp only [putAll, Act.put, List.setIfInBounds_toArray, List.set_cons_zero, List.set_cons_succ]) (hCont (.slice (some ⟨(V0.alloc (.cells #[.string xffB, .string who] 28)).heap.size, 0, none⟩) 1 1, v9, .slice (some ⟨V0.heap.size, 0, none⟩) 1 1) _ ⟨hHeld, below_step (below_alloc (below_alloc HB0.out _) _) hB9, Kd.R_lower hR9 (below_alloc (below_alloc HB0.out _) _).size, _, rfl, (hB9.block _ (by first | (simp; done) | (simp; omega))).trans ((Below.heap_alloc _ _ _ (by simp)).trans (heap_alloc_new V0 _))⟩)
    rintro ⟨v37, v38, v41⟩ V ⟨hHeld, hBV, hRV, g4, hv41, hblk⟩
    have hv : v41 = .slice (some ⟨g4, 0, none⟩) 1 1 := hv41
    subst hv
    clear hv41
    refine norm_ (a' := ?_) ?_ ?_
    rotate_left
    · simp only [putAll, Act.put, List.setIfInBounds_toArray, List.set_cons_zero, List.set_cons_succ]
      rfl
    refine one_ (i := 8) (N := some 42) #[true, true, true, true, true, true, true, true, true, false, false, false] rfl rfl (one_of HT_.out (by kernel_rfl)) (by decide) (fun K hK => ?_)
    refine R_append_far k28 (w0 := W7) W7.heap.size (by rfl) (.tmp 38) (.tmp 41) 22 28 (.agg #[.string ⟨#[]⟩, .string ⟨#[]⟩]) 32 (by rfl) Tryd.underlying22 info28 rfl (by decide) v38 s2 ⟨xffB, who⟩ [.string xffB, .string who] g4 (fun _ => True) (fun _ => False) (by rfl) (by rfl) hblk (k28_mkM _ _ _ ⟨xffB, who⟩) (fun _ hk => hk.elim) (fun _ _ => trivial) hRV hBV hBV.size HSZ.out.2 HSZ.out.1 ?_; intro v8 w8 hO8 hB8 hg8
    obtain ⟨A8, c8, rfl⟩ := Kd.R_slice hO8
    refine hK.out _ _ (HKP.out _ hB8) (fun hHeld => ?_)
    clear hK K
    refine norm_ (a' := ?_) ?_ ?_
    rotate_left
    · show Act.put _ (some 42) _ = _
      simp only [Act.put, List.setIfInBounds_toArray, List.set_cons_zero, List.set_cons_succ, i64_w, i32_w]
      rfl
    refine pure_ (i := 9) (N := some 43) (v := ?_) (a' := ?_) #[true, true, true, true, true, true, true, true, true, true, false, false] rfl rfl (any_of HT_.out (by kernel_rfl)) (fun _ _ _ h => h) (Or.inl ⟨by rfl, ?_⟩) ?_ ?_
    rotate_left
    · intro w'
      go_simp
      with_reducible rfl
    rotate_left
    · simp only [Act.put, List.setIfInBounds_toArray, List.set_cons_zero, List.set_cons_succ, i64_w, i32_w]
      rfl
    refine pure_ (i := 10) (N := some 44) (v := ?_) (a' := ?_) #[true, true, true, true, true, true, true, true, true, true, true, false] rfl rfl (any_of HT_.out (by kernel_rfl)) (fun _ _ _ h => h) (Or.inl ⟨by rfl, ?_⟩) ?_ ?_
    rotate_left
    · intro w'
      go_simp
      with_reducible rfl
    rotate_left
    · simp only [Act.put, List.setIfInBounds_toArray, List.set_cons_zero, List.set_cons_succ, i64_w, i32_w]
      rfl
    refine last_ (i := 11) (N := none) #[true, true, true, true, true, true, true, true, true, true, true, true] rfl rfl (one_of HT_.out (by kernel_rfl)) (by decide) (fun K hK => ?_)
    have z2 := (hB8.block bb (World.block_lt_of_cell? W7 _ k5)).trans Z2.out
    have z4 := (hB8.block (bb + 1) (Array.getElem?_eq_some_iff.1 Z4.out).1).trans Z4.out
    have zd := (hB8.block W6.heap.size (Array.getElem?_eq_some_iff.1 ZD.out).1).trans ZD.out
    have hs30 := hHeld.1
    have hfs30 := blk_frozen z2 5
    refine skip_ (w1 := w8.setCell ⟨bb, 5, none⟩ (.slice A8 (s2 ++ [(⟨xffB, who⟩ : S28)]).length c8)) (by rfl) rfl ?hstore ?_
    case hstore => first | (go_simp; done) | (go_simp; rfl)
    refine hK.out _ _ ?_
    clear hK K
    refine done_ (done_of HT_.out (by kernel_rfl)) ?_
    dsimp only [NoPanic]
    obtain ⟨W9, hW9⟩ : ∃ W9, W9 = w8.setCell ⟨bb, 5, none⟩ (.slice A8 (s2 ++ [(⟨xffB, who⟩ : S28)]).length c8) := ⟨_, rfl⟩
    rw [← hW9]
    have hq3 : ∀ b, b ≠ bb → W9.heap[b]? = w8.heap[b]? := fun b hb => by rw [hW9]; exact Below.heap_setCell w8 ⟨bb, 5, none⟩ _ b hb
    have y2 : W9.heap[bb]? = some (.cells #[.string a0_0, .string a0_1, .int .i64 a0_2, .string a0_3, .int .i64 1, .slice A8 (s2 ++ [(⟨xffB, who⟩ : S28)]).length c8, .string a0_6] 26 (0, 0)) := by rw [hW9]; exact blk_put z2 5 _ rfl
    have y4 := (hq3 (bb + 1) (by omega)).trans z4
    have yd := (hq3 W6.heap.size (by omega)).trans zd
    have e0 : W9.cell? ⟨bb, 0, none⟩ = some (.string a0_0) := blk_cell y2 0
    have e1 : W9.cell? ⟨bb, 1, none⟩ = some (.string a0_1) := blk_cell y2 1
    have e2 : W9.cell? ⟨bb, 2, none⟩ = some (.int .i64 a0_2) := blk_cell y2 2
    have e3 : W9.cell? ⟨bb, 3, none⟩ = some (.string a0_3) := blk_cell y2 3
    have e4 : W9.cell? ⟨bb, 4, none⟩ = some (.int .i64 1) := blk_cell y2 4
    have e5 : W9.cell? ⟨bb, 5, none⟩ = some (.slice A8 (s2 ++ [(⟨xffB, who⟩ : S28)]).length c8) := blk_cell y2 5
    have e6 : W9.cell? ⟨bb, 6, none⟩ = some (.string a0_6) := blk_cell y2 6
    have q0 : W9.cell? ⟨bb + 1, 0, none⟩ = some (.string ⟨#[]⟩) := blk_cell y4 0
    have qf0 := blk_frozen y4 0
    have q1 : W9.cell? ⟨bb + 1, 1, none⟩ = some (.string ⟨#[]⟩) := blk_cell y4 1
    have qf1 := blk_frozen y4 1
    have q2 : W9.cell? ⟨bb + 1, 2, none⟩ = some (.int .i64 0) := blk_cell y4 2
    have qf2 := blk_frozen y4 2
    have q3 : W9.cell? ⟨bb + 1, 3, none⟩ = some (.string ⟨#[]⟩) := blk_cell y4 3
    have qf3 := blk_frozen y4 3
    have q4 : W9.cell? ⟨bb + 1, 4, none⟩ = some (.int .i64 0) := blk_cell y4 4
    have qf4 := blk_frozen y4 4
    have q5 : W9.cell? ⟨bb + 1, 5, none⟩ = some (.slice none 0 0) := blk_cell y4 5
    have qf5 := blk_frozen y4 5
    have q6 : W9.cell? ⟨bb + 1, 6, none⟩ = some (.string ⟨#[]⟩) := blk_cell y4 6
    have qf6 := blk_frozen y4 6
    have hO9 : Kd.R k28 28 W9 W7.heap.size (fun _ => True) (.slice A8 (s2 ++ [(⟨xffB, who⟩ : S28)]).length c8) (s2 ++ [⟨xffB, who⟩]) := by rw [hW9]; exact Kd.R_mono (Kd.R_far (p := ⟨bb, 5, none⟩) (Kd.R_types hO8 z2 (by decide)) (fun _ hk => hk.2) _) (fun _ _ => trivial)
    have hB9 : Below bb w W9 := by
      have h7 : Below w.heap.size w w8 := below_step HBZ.out hB8
      rw [hW9, HH.out]
      exact Below.setCell h7 (Nat.le_refl _) _
    generalize hlen : (s2 ++ [(⟨xffB, who⟩ : S28)]).length = nn at y2 e5 hO9
    have Y2 := Lib.hid y2
    have Y4 := Lib.hid y4
    have YD := Lib.hid yd
    have HO9 := Lib.hid hO9
    have HB9 := Lib.hid hB9
    clear hW9 hq3 y2 y4 yd hO9 hB9 hlen hO8 hB8 hg8 hRV hBV hblk hHeld z2 z4 zd hs30 hfs30
    go_wp2_with fail
    obtain ⟨W10, hW10⟩ : ∃ W10, W10 = (((((((W9.setCell ⟨bb + 1, 0, none⟩ (.string a0_0)).setCell ⟨bb + 1, 1, none⟩ (.string a0_1)).setCell ⟨bb + 1, 2, none⟩ (.int .i64 a0_2)).setCell ⟨bb + 1, 3, none⟩ (.string a0_3)).setCell ⟨bb + 1, 4, none⟩ (.int .i64 1)).setCell ⟨bb + 1, 5, none⟩ (.slice A8 nn c8)).setCell ⟨bb + 1, 6, none⟩ (.string a0_6)) := ⟨_, rfl⟩
    rw [← hW10]
    have u4 : W10.heap[bb + 1]? = some (.cells #[.string a0_0, .string a0_1, .int .i64 a0_2, .string a0_3, .int .i64 1, .slice A8 nn c8, .string a0_6] 26 (0, 0)) := by rw [hW10]; refine blk_put (cs := #[.string a0_0, .string a0_1, .int .i64 a0_2, .string a0_3, .int .i64 1, .slice A8 nn c8, .string ⟨#[]⟩]) ?_ 6 _ rfl; refine blk_put (cs := #[.string a0_0, .string a0_1, .int .i64 a0_2, .string a0_3, .int .i64 1, .slice none 0 0, .string ⟨#[]⟩]) ?_ 5 _ rfl; refine blk_put (cs := #[.string a0_0, .string a0_1, .int .i64 a0_2, .string a0_3, .int .i64 0, .slice none 0 0, .string ⟨#[]⟩]) ?_ 4 _ rfl; refine blk_put (cs := #[.string a0_0, .string a0_1, .int .i64 a0_2, .string ⟨#[]⟩, .int .i64 0, .slice none 0 0, .string ⟨#[]⟩]) ?_ 3 _ rfl; refine blk_put (cs := #[.string a0_0, .string a0_1, .int .i64 0, .string ⟨#[]⟩, .int .i64 0, .slice none 0 0, .string ⟨#[]⟩]) ?_ 2 _ rfl; refine blk_put (cs := #[.string a0_0, .string ⟨#[]⟩, .int .i64 0, .string ⟨#[]⟩, .int .i64 0, .slice none 0 0, .string ⟨#[]⟩]) ?_ 1 _ rfl; refine blk_put (cs := #[.string ⟨#[]⟩, .string ⟨#[]⟩, .int .i64 0, .string ⟨#[]⟩, .int .i64 0, .slice none 0 0, .string ⟨#[]⟩]) ?_ 0 _ rfl; exact Y4.out
    have hq : ∀ b, b ≠ bb + 1 → W10.heap[b]? = W9.heap[b]? := fun b hb => by
      rw [hW10]
      refine (Below.heap_setCell _ ⟨bb + 1, 6, none⟩ _ b hb).trans ?_
      refine (Below.heap_setCell _ ⟨bb + 1, 5, none⟩ _ b hb).trans ?_
      refine (Below.heap_setCell _ ⟨bb + 1, 4, none⟩ _ b hb).trans ?_
      refine (Below.heap_setCell _ ⟨bb + 1, 3, none⟩ _ b hb).trans ?_
      refine (Below.heap_setCell _ ⟨bb + 1, 2, none⟩ _ b hb).trans ?_
      refine (Below.heap_setCell _ ⟨bb + 1, 1, none⟩ _ b hb).trans ?_
      exact Below.heap_setCell _ ⟨bb + 1, 0, none⟩ _ b hb
    have hB10 : Below bb w W10 := by
      rw [hW10]
      exact ((((((HB9.out.setCell (Nat.le_succ bb) _).setCell (Nat.le_succ bb) _).setCell (Nat.le_succ bb) _).setCell (Nat.le_succ bb) _).setCell (Nat.le_succ bb) _).setCell (Nat.le_succ bb) _).setCell (Nat.le_succ bb) _
    clear hW10
    have hd10 : W10.heap[W6.heap.size]? = some (.deferred (some [])) := (hq _ (by omega)).trans YD.out
    have h7a := (Array.getElem?_eq_some_iff.1 ZD.out).1
    refine ⟨by simp, .inl ⟨_, _, rfl, run_takeDeferred hd10, ?_⟩⟩
    refine ⟨.agg #[.string a0_0, .string a0_1, .int .i64 a0_2, .string a0_3, .int .i64 1, .slice A8 nn c8, .string a0_6], results_cell_row rfl _ _ (bb + 1) 26 #[.string a0_0, .string a0_1, .int .i64 a0_2, .string a0_3, .int .i64 1, .slice A8 nn c8, .string a0_6] (0, 0) _ rfl ((World.putObj_heap_other (by omega)).trans u4) Tryd.underlying26 rfl (by kernel_rfl), _, rfl, ?_, ?_⟩
    · rw [← HWHO.out]
      refine Kd.R_lower (Kd.R_mono (Kd.R_move (Kd.R_bound HO9.out) (fun k hk => ?_)) (fun _ _ => trivial)) HBZ.out.size
      have h1 := hk.2.1
      exact (World.putObj_heap_other (by omega)).trans (hq k (by omega))
    · rw [← HH.out]
      exact hB10.grown (grownBy_putObj' _ _ _) (by have := (Array.getElem?_eq_some_iff.1 hd10).1; omega) (fun k e => by cases e; omega)
end Go.Proofs.YthmpfncidpjnjaaDoor.P
