/- Blocks of tactics that printed texts say again and again, each told once: as the default of a theorem's last argument. -/
import Derived.Test.YthmallhjbhphgaaGreatDoorHZ
import Derived.Test.YthmallhjbhphgaaGreatDoorWTab
import Derived.Test.YthmallhjbhphgaaGreatDoorWApart
namespace Go.Proofs.YthmallhjbhphgaaGreatDoor.P
open Go.RowKit Go.Proofs.YthmallhjbhphgaaGreatDoorW.PrintWords Go.Proofs.YthmallhjbhphgaaGreatDoorW.PrintLast Go.Proofs.YthmallhjbhphgaaGreatDoorW.PrintMore
set_option linter.unusedVariables false
theorem zB {p : Prop} (h : p := by repeat (first | (with_reducible first | exact HB.out | apply lA | apply lN | apply lD | refine below_set ?_ (Aside0.out (by assumption))) | exact HB.out)) : p := h
theorem zL {p : Prop} (h : p := by (try simp only [List.map_toArray, List.map_cons, List.map_nil]); first | done | rfl | (simp only [List.length_drop, List.length_take]; rfl)) : p := h
theorem zA {p : Prop} (h : p := by first | (with_reducible assumption) | assumption) : p := h
theorem zR {p : Prop} (h : p := by first | rfl | (simp; done) | (simp [*]; done)) : p := h
theorem zJ {q p : Prop} (x : q) (h : q → p := by intro x_; first | rfl | (simp; done) | (simp only [← x_] <;> (first | rfl | simp)) | (simp [*]; done)) : p := h x
theorem zD {p : Prop} (h : p := by repeat (first | exact Drawn0.refl _ | apply Drawn0.step)) : p := h
theorem zE {p : Prop} (h : p := by first | rfl | (simp [errW_none, errW_some] <;> rfl) | (simp [*, errW_none, errW_some] <;> rfl)) : p := h
theorem zO {q p : Prop} (x : q) (h : q → p := by intro x_; (with_reducible repeat (first | apply rA | apply rN | apply rD)); exact x_) : p := h x
theorem zK {q p : Prop} (x : q) (h : q → p := by intro x_; (with_reducible repeat (first | refine bN ?_ _ | refine bD ?_ | refine bA ?_ _)); exact x_) : p := h x
theorem zF {q p : Prop} (x : q) (h : q → p := by intro x_; (repeat (first | (with_reducible first | refine bN ?_ _ | refine bD ?_ | refine bA ?_ _) | refine blk_far ?_ (Aside0.out (by assumption)) _)); exact x_) : p := h x
theorem zP {p : Prop} (h : p := by simp only [Act.put, List.setIfInBounds_toArray, List.set_cons_zero, List.set_cons_succ, i64_w, i32_w]; rfl) : p := h
theorem zQ2 {q p : Prop} (x : q) (h : q → p := by intro x_; (repeat (first | (with_reducible first | refine bN ?_ _ | refine bD ?_ | refine bA ?_ _ | apply p2_1 | apply p2_0) | refine blk_far ?_ (Aside0.out (by assumption)) _)); exact x_) : p := h x
theorem zQ4 {q p : Prop} (x : q) (h : q → p := by intro x_; (repeat (first | (with_reducible first | refine bN ?_ _ | refine bD ?_ | refine bA ?_ _ | apply p4_3 | apply p4_2 | apply p4_1 | apply p4_0) | refine blk_far ?_ (Aside0.out (by assumption)) _)); exact x_) : p := h x
theorem zQ6 {q p : Prop} (x : q) (h : q → p := by intro x_; (repeat (first | (with_reducible first | refine bN ?_ _ | refine bD ?_ | refine bA ?_ _ | apply p6_5 | apply p6_4 | apply p6_3 | apply p6_2 | apply p6_1 | apply p6_0) | refine blk_far ?_ (Aside0.out (by assumption)) _)); exact x_) : p := h x
theorem zQ7 {q p : Prop} (x : q) (h : q → p := by intro x_; (repeat (first | (with_reducible first | refine bN ?_ _ | refine bD ?_ | refine bA ?_ _ | apply p7_6 | apply p7_5 | apply p7_4 | apply p7_3 | apply p7_2 | apply p7_1 | apply p7_0) | refine blk_far ?_ (Aside0.out (by assumption)) _)); exact x_) : p := h x
theorem zQ17 {q p : Prop} (x : q) (h : q → p := by intro x_; (repeat (first | (with_reducible first | refine bN ?_ _ | refine bD ?_ | refine bA ?_ _ | apply p17_16 | apply p17_15 | apply p17_14 | apply p17_13 | apply p17_12 | apply p17_11 | apply p17_10 | apply p17_9 | apply p17_8 | apply p17_7 | apply p17_6 | apply p17_5 | apply p17_4 | apply p17_3 | apply p17_2 | apply p17_1 | apply p17_0) | refine blk_far ?_ (Aside0.out (by assumption)) _)); exact x_) : p := h x
theorem zM {p : Prop} (h : p := by repeat' first | (with_reducible first | apply ih0 | apply ih1 | apply ih2 | apply ih3 | apply ih4 | apply ih5 | apply ih6 | apply ih7 | apply ih8 | apply ih9 | apply m0 | apply m1 | apply m2 | apply m3 | apply m4 | apply m5 | apply m6 | apply m7 | apply m8 | apply m9 | apply m10 | apply m11 | exact LeO.refl _ | exact LeO.none _ | refine LeO.ite ?_ ?_ | refine LeO.bind ?_ (fun _ => ?_)) | apply ih0 | apply ih1 | apply ih2 | apply ih3 | apply ih4 | apply ih5 | apply ih6 | apply ih7 | apply ih8 | apply ih9 | apply m0 | apply m1 | apply m2 | apply m3 | apply m4 | apply m5 | apply m6 | apply m7 | apply m8 | apply m9 | apply m10 | apply m11 | exact LeO.none _ | refine LeO.ite ?_ ?_ | refine LeO.bind ?_ (fun _ => ?_)) : p := h
theorem zG {p : Prop} (h : p := by first | (go_simp; done) | (go_simp; rfl)) : p := h
theorem zC {q p : Prop} (x : q) (h : q → p := by intro x_; repeat (first | (with_reducible exact x_) | (with_reducible refine Kd.C_alloc ?_ _) | (with_reducible refine Kd.C_drewN ?_ _) | (with_reducible refine Kd.C_drew ?_) | exact x_)) : p := h x
theorem zU {p : Prop} (h : p := by first | (simp only [putAll, Act.put, List.setIfInBounds_toArray, List.set_cons_zero, List.set_cons_succ]; done) | (simp only [putAll, Act.put, List.setIfInBounds_toArray, List.set_cons_zero, List.set_cons_succ]; rfl)) : p := h
theorem zS {p : Prop} (h : p := by rw [hg]; exact (below_size zB)) : p := h
theorem zX {w0 w w1 : World} {g : Nat} {o : Obj} (h0 : w0.heap[g]? = some o) (hb : Below w.heap.size w w1) (h : w0.heap[g]? = some o → w.heap[g]? = some o := by intro x_; (with_reducible repeat (first | refine bN ?_ _ | refine bD ?_ | refine bA ?_ _)); exact x_) : w1.heap[g]? = some o := blk_below (h h0) hb
theorem zY (x : ByteArray) {a b c} : Kd.M Kd.string a b c x [.string x] := rfl
theorem zN {q1 q2 p : Prop} (x : q1) (y : q2) (h : q1 → q2 → p := by intro x_ H; first | (rw [x_]; with_reducible exact H) | (have H2_ := (Option.bind_some _ _).symm.trans H; rw [x_]; with_reducible exact H2_) | (have H2_ := (Option.bind_some _ _).symm.trans H; with_reducible exact H2_) | with_reducible exact H | (rw [x_]; exact H) | exact H) : p := h x y
theorem zb {α β : Type} {a : α} {f : α → Option β} {r : β} (H : (some a).bind f = some r) : ∃ y, y = a ∧ f y = some r := ⟨a, rfl, H⟩
theorem zc {α β : Type} {x : Option α} {f : α → Option β} {r : β} (H : x.bind f = some r) : ∃ a, Aside0 (x = some a) ∧ f a = some r := by
  obtain ⟨a, h, k⟩ := Option.bind_eq_some_iff.mp H
  exact ⟨a, ⟨h⟩, k⟩
theorem zd {α : Type} [BEq α] [LawfulBEq α] {a b : α} (h : a = b) : (a == b) = true ∧ (a != b) = false := ⟨beq_iff_eq.mpr h, bne_eq_false_iff_eq.mpr h⟩
theorem ze {α : Type} [BEq α] [LawfulBEq α] {a b : α} (h : ¬ a = b) : (a == b) = false ∧ (a != b) = true := ⟨beq_eq_false_iff_ne.mpr h, bne_iff_ne.mpr h⟩
theorem zf {p : Prop} [Decidable p] {α : Type} {x : Option α} {r : α} {q : Prop} (c : ¬ p) (H : (if p then x else none) = some r) : q := by
  rw [if_neg c] at H
  cases H
section
variable {md : Region.Mode} {ops : Array Oper} {T : Bool × List (List Nat × List Nat)} {l l' : Array Bool} {i : Nat}
theorem zT (hT : rtab md ops = T) (h : anyT T l.toList l'.toList i = true := by kernel_rfl) : anyB md ops l l' i = true := any_of hT h
end
section
variable {P : Program} {md : Region.Mode} {ops : Array Oper} {S : World → Prop} {Q : Exit → Act → World → Prop} {ds : List Nat} {T : Bool × List (List Nat × List Nat)} {B : List Nat} {l : Array Bool} {fuel : Nat} {a : Act} {w : World}
theorem pR (i : Nat) (N : Tmp) (l' : Array Bool) (hT : rtab md ops = T) {oi : Oper} {v : Value} {a' : Act} (h : wpAnyLast P md ops Q S ds fuel l' a' w)
    (hi : ops[i]? = some oi := by rfl) (hN : oi.dst = some N := by rfl) (hc : anyT T l.toList l'.toList i = true := by kernel_rfl) (hQ : ∀ c a w, Q (.panic c) (a.put oi.dst v) w → Q (.panic c) a w := by exact fun _ _ _ h => h)
    (hw : Region.wanted oi (yielded ops a.tmps) = true := by rfl) (hv : ∀ w', (execOp a.eval oi).run P w' = .ok (.value v) w' := by intro w'; go_simp; (with_reducible rfl)) (ha : a.put (some N) v = a' := by exact zP) : wpAnyLast P md ops Q S ds (fuel + 1) l a w :=
  pure_ l' hi hN (any_of hT hc) hQ (Or.inl ⟨hw, hv⟩) ha h
theorem tR (i : Nat) (N : Tmp) (l' : Array Bool) (hT : rtab md ops = T) (hB : waitsOk T.2 B = true) (hS : S w) {oi : Oper} {v : Value} {a' : Act} (h : wpAnyLast P md ops Q S ds fuel l' a' w)
    (hi : ops[i]? = some oi := by rfl) (hN : oi.dst = some N := by rfl) (hc : takeW T B ds l.toList l'.toList i = true := by kernel_rfl) (hQ : ∀ c a w, Q (.panic c) (a.put oi.dst v) w → Q (.panic c) a w := by exact fun _ _ _ h => h)
    (hw : Region.wanted oi (yielded ops a.tmps) = true := by rfl) (hv : ∀ w', S w' → (execOp a.eval oi).run P w' = .ok (.value v) w' := by intro w' h_; (repeat obtain ⟨_, h_⟩ := h_); go_simp; (with_reducible rfl)) (ha : a.put (some N) v = a' := by exact zP) : wpAnyLast P md ops Q S ds (fuel + 1) l a w :=
  take_ l' hi hN (take_ofW hT hB hc) hQ (Or.inl ⟨hw, hv⟩) hS ha h
theorem oR (i : Nat) (N : Tmp) (l' : Array Bool) (hT : rtab md ops = T) {oi : Oper}
    (h : ∀ K : Act → World → Prop, Shut (∀ a' w', S w' → (S w' → wpAnyLast P md ops Q S ds fuel l' a' w') → K a' w') → if Region.wanted oi (yielded ops a.tmps) = true then Oper.wp P oi a w K Q else K (a.put (some N) undef) w)
    (hi : ops[i]? = some oi := by rfl) (hN : oi.dst = some N := by rfl) (hc : (readyT T.2 l.toList == [i] && l.toList.set i true == l'.toList) = true := by kernel_rfl) (hd : i ∉ ds := by decide) : wpAnyLast P md ops Q S ds (fuel + 1) l a w :=
  one_ l' hi hN (one_of hT hc) hd h
end
end Go.Proofs.YthmallhjbhphgaaGreatDoor.P
