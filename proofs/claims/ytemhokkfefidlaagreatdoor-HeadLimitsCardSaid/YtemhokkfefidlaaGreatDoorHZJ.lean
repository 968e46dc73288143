/- Several parts together: The table of first lines that head.Parse makes and looks up at once: what it holds, and the function that is found in it; head.Parse: printed by a program of the session out of the translation (a table of functions that is looked up at once is turned by hand). -/
import Derived.Test.YtemhokkfefidlaaGreatDoorHZ
import Derived.Test.YtemhokkfefidlaaGreatDoorPx4
import Derived.Test.YtemhokkfefidlaaGreatDoorPx5
import Derived.Carry
import Derived.MapKept
import Derived.Test.YtemhokkfefidlaaGreatDoorPx0
import Derived.Test.YtemhokkfefidlaaGreatDoorHZB
namespace Go.Proofs.YtemhokkfefidlaaGreatDoor.H
open Go.RowKit Go.Shelf Go Go.MapKept
theorem run_put_last {P : Program} {mty kt et : TypeId} {d : TypeDesc} (hm : P.underlying mty = some (.map kt et)) (hd : P.underlying kt = some d) (w : World) (es : Array MapEntry) (clock : Nat) (key value : Value) (hk : IsKey d key) (hf : Instr.findNow d key es.toList 0 = some none) :
  (Instr.mapUpdate mty (.map (some w.heap.size)) key value).run P (w.alloc (.map es clock)) = .ok () (w.alloc (.map (es.push { key := key, val := value, born := clock }) (clock + 1))) := by
 have hb : (w.alloc (.map es clock)).heap[w.heap.size]? = some (.map es clock) := heap_alloc_new w _
 have hs : ({ w.alloc (.map es clock) with heap := (w.alloc (.map es clock)).heap.setIfInBounds w.heap.size (.map (es.push { key := key, val := value, born := clock }) (clock + 1)) } : World) = w.alloc (.map (es.push { key := key, val := value, born := clock }) (clock + 1)) := by
  have : (w.alloc (.map es clock)).heap.setIfInBounds w.heap.size (.map (es.push { key := key, val := value, born := clock }) (clock + 1)) = (w.alloc (.map (es.push { key := key, val := value, born := clock }) (clock + 1))).heap := by
   show (w.heap.push (.map es clock)).setIfInBounds w.heap.size _ = w.heap.push _
   apply Array.ext'
   simp
  rw [this]
  rfl
 simp [Instr.mapUpdate, run_underlying hm, MapKept.run_getObj_map hb, MapKept.run_checkKey hd hk, MapKept.run_findKey hd hf, MapKept.run_setObj_map _ hb, Result.andThen]
 exact hs
theorem run_look {P : Program} {mty kt et : TypeId} {d : TypeDesc} {w : World} {r clock : Nat} {es : Array MapEntry} (hm : P.underlying mty = some (.map kt et)) (hd : P.underlying kt = some d) (hb : w.heap[r]? = some (.map es clock)) (key v : Value) (i : Nat) (hk : IsKey d key) (hf : Instr.findNow d key es.toList 0 = some (some (i, v))) :
  (Instr.lookup mty (.map (some r)) key false).run P w = .ok v w := by
 simp [Instr.lookup, run_underlying hm, MapKept.run_getObj_map hb, MapKept.run_checkKey hd hk, MapKept.run_findKey hd hf, Result.andThen]
end Go.Proofs.YtemhokkfefidlaaGreatDoor.H
namespace Go.Proofs.YtemhokkfefidlaaGreatDoor.P
open Go.RowKit Go.Shelf Go.Lib Go.Proofs.YtemhokkfefidlaaGreatDoorW.PrintWords Go.Proofs.YtemhokkfefidlaaGreatDoorW.PrintLast Go.Proofs.YtemhokkfefidlaaGreatDoorW.PrintMore
def pickN : Bool → Nat
 | false => 26
 | true => 27
def pickM : Array MapEntry := #[{ key := .bool false, val := .func (.func 26) #[] #[], born := 0 }, { key := .bool true, val := .func (.func 27) #[] #[], born := 1 }]
theorem pick_put1 (w : World) : (Instr.mapUpdate 55 (.map (some w.heap.size)) (.bool false) (.func (.func 26) #[] #[])).run Tryz.prog (w.alloc (.map #[] 0)) = .ok () (w.alloc (.map #[{ key := .bool false, val := .func (.func 26) #[] #[], born := 0 }] 1)) :=
 H.run_put_last Tryz.underlying55 Tryz.underlying4 w #[] 0 (.bool false) (.func (.func 26) #[] #[]) trivial rfl
theorem pick_put2 (w : World) : (Instr.mapUpdate 55 (.map (some w.heap.size)) (.bool true) (.func (.func 27) #[] #[])).run Tryz.prog (w.alloc (.map #[{ key := .bool false, val := .func (.func 26) #[] #[], born := 0 }] 1)) = .ok () (w.alloc (.map pickM 2)) :=
 H.run_put_last Tryz.underlying55 Tryz.underlying4 w #[{ key := .bool false, val := .func (.func 26) #[] #[], born := 0 }] 1 (.bool true) (.func (.func 27) #[] #[]) trivial rfl
theorem pick_look (w : World) (a1 : Bool) : (Instr.lookup 55 (.map (some w.heap.size)) (.bool a1) false).run Tryz.prog (w.alloc (.map pickM 2)) = .ok (.func (.func (pickN a1)) #[] #[]) (w.alloc (.map pickM 2)) := by
 cases a1 with
 | false => exact H.run_look Tryz.underlying55 Tryz.underlying4 (heap_alloc_new w _) (.bool false) _ 0 trivial rfl
 | true => exact H.run_look Tryz.underlying55 Tryz.underlying4 (heap_alloc_new w _) (.bool true) _ 1 trivial rfl
theorem pick_enter (a1 : Bool) (args : Array Value) (w : World) : (callFunc (pickN a1) args).run Tryz.prog w = .ok (.enter (pickN a1) args) w := by
 cases a1 with
 | false => exact enters_ Tryz.func26 (by kernel_rfl) rfl args w
 | true => exact enters_ Tryz.func27 (by kernel_rfl) rfl args w
def head_pick.f (k : Nat) (a1 : Bool) (l0 : List ByteArray) : Option (ByteArray × ByteArray × Int × ByteArray × Int × (List (S37)) × Int) := if a1 = true then head_answer.f k l0 else head_request.f k l0
theorem head_pick.mono (a1 : Bool) (l0 : List ByteArray) (k : Nat) : LeO (head_pick.f k a1 l0) (head_pick.f (k + 1) a1 l0) := by
 unfold head_pick.f
 exact .ite (head_answer.mono _ _) (head_request.mono _ _)
theorem head_pick.calls (a1 : Bool) (k : Nat) (A0 : Option Addr) (c0 : Nat) (l0 : List ByteArray) (r1 : ByteArray) (r2 : ByteArray) (r3 : Int) (r4 : ByteArray) (r5 : Int) (r6 : List (S37)) (r7 : Int) (w : World) (hr0 : Kd.C Kd.string w A0 l0.length l0) (hc0 : l0.length ≤ c0) (h : head_pick.f k a1 l0 = some (r1, r2, r3, r4, r5, r6, r7)) :
  Calls Tryz.prog (pickN a1) #[.slice A0 l0.length c0] w fun e w' => ∃ v5_ : Value, e = .returned (.tuple #[.agg #[.string r1, .string r2, .int .i64 r3, .string r4, .int .i64 r5, v5_], .int .i64 r7]) ∧ Kd.R k37 37 w' w.heap.size (fun _ => True) v5_ r6 ∧ Below w.heap.size w w' := by
 unfold head_pick.f at h
 cases a1 with
 | false =>
  rw [if_neg (by decide)] at h
  exact head_request.calls k A0 c0 l0 r1 r2 r3 r4 r5 r6 r7 w hr0 hc0 h
 | true =>
  rw [if_pos rfl] at h
  exact head_answer.calls k A0 c0 l0 r1 r2 r3 r4 r5 r6 r7 w hr0 hc0 h
section
variable {P : Program} {ops : Array Oper} {Q : Exit → Act → World → Prop}
theorem gate_dyn {t : Tmp} {o : Oper} {rest : List Oper} {a : Act} {W : World} {ags : Array Operand} {ts : Array TypeId} (_ho : o.op = .call { callee := .value (.tmp t), args := ags, argTypes := ts }) (h : wpList P ops Q (o :: rest) a W) : wpList P ops Q (o :: rest) a W := h
theorem goesD_ {rest : List Oper} {oi : Oper} {a : Act} {w : World} (t : Tmp) (N : Option Tmp) (hd : oi.dst = N) (hg : oi.guard = none) {f : FuncId} {ags : Array Operand} {ts : Array TypeId} (args : Array Value) (he : ∀ args w, (callFunc f args).run P w = .ok (.enter f args) w)
  (hop : oi.op = .call { callee := .value (.tmp t), args := ags, argTypes := ts }) (hv : a.eval (.tmp t) = .func (.func f) #[] #[]) (hargs : ags.map a.eval = args)
  (h : Calls P f args w fun e w' => ∃ v, e = .returned v ∧ wpList P ops Q rest (a.put N v) w') : wpList P ops Q (oi :: rest) a w := by
 refine wpList_plain hg fun K hK => ?_
 have he := he args w
 have hrun : (execOp a.eval oi).run P w = .ok (.enter f args) w := by
  unfold execOp
  simp [hop, resolve, Deferred.ofValue, invoke, hv, hargs, he]
 unfold Oper.wp
 rw [hrun, Oper.upon_enter]
 refine h.mono fun e w'' hh => ?_
 obtain ⟨v, rfl, hk⟩ := hh
 subst hd
 exact hK _ _ hk
end
end Go.Proofs.YtemhokkfefidlaaGreatDoor.P
namespace Go.Proofs.YtemhokkfefidlaaGreatDoor.P
open Go.RowKit Go.Proofs.YtemhokkfefidlaaGreatDoorW.PrintWords Go.Proofs.YtemhokkfefidlaaGreatDoorW.PrintLast Go.Proofs.YtemhokkfefidlaaGreatDoorW.PrintMore
attribute [local go_sem] max2_int min2_int max_two min_two max_three min_three max_four min_four   -- for this text's walks alone
set_option linter.unusedVariables false
set_option linter.unusedSimpArgs false

def head_Parse.l0 : Nat → List ByteArray → Int → Int → ByteArray → ByteArray → Int → ByteArray → Int → List (S37) → Option (ByteArray × ByteArray × Int × ByteArray × Int × (List (S37)) × Int)
 | 0, _, _, _, _, _, _, _, _, _ => none
 | k + 1, x44, x45, x46, x204000, x204001, x204002, x204003, x204004, x204005 => if x46 < x45 then (if 0 ≤ x46 then (if x46 < (x44.length : Int) then (if (x204005.length : Int) = 20 then (some ((⟨#[]⟩ : ByteArray), (⟨#[]⟩ : ByteArray), 0, (⟨#[]⟩ : ByteArray), 0, ([] : List (S37)), 2)) else ((field_Parse.f k (rdOf ByteArray.empty x44 x46)).bind fun bt209 => (if bt209.2.2 = 0 then (if x204005.length < 4398046511104 then (head_Parse.l0 k x44 x45 (wrap64 (x46 + 1)) x204000 x204001 x204002 x204003 x204004 (x204005 ++ [(⟨bt209.1, bt209.2.1⟩ : S37)])) else (none)) else (some ((⟨#[]⟩ : ByteArray), (⟨#[]⟩ : ByteArray), 0, (⟨#[]⟩ : ByteArray), 0, ([] : List (S37)), bt209.2.2))))) else (none)) else (none)) else (some (x204000, x204001, x204002, x204003, x204004, x204005, 0))
def head_Parse.f (k : Nat) (a0 : ByteArray) (a1 : Bool) : Option (ByteArray × ByteArray × Int × ByteArray × Int × (List (S37)) × Int) := if (a0.size : Int) > 2000 then (some ((⟨#[]⟩ : ByteArray), (⟨#[]⟩ : ByteArray), 0, (⟨#[]⟩ : ByteArray), 0, ([] : List (S37)), 2)) else ((strings_Split.f a0 (⟨#[13, 10]⟩ : ByteArray)).bind fun t187 => (if 0 < (t187.length : Int) then ((strings_SplitN.f (rdOf ByteArray.empty t187 0) (⟨#[32]⟩ : ByteArray) 3).bind fun t191 => (if (t191.length : Int) < 3 then (some ((⟨#[]⟩ : ByteArray), (⟨#[]⟩ : ByteArray), 0, (⟨#[]⟩ : ByteArray), 0, ([] : List (S37)), 20)) else ((head_pick.f k a1 t191).bind fun bt194 => (if bt194.2.2.2.2.2.2 = 0 then (if 1 ≤ (t187.length : Int) then ((some (t187.drop 1 : List ByteArray)).bind fun y204 => (head_Parse.l0 k y204 (y204.length : Int) 0 bt194.1 bt194.2.1 bt194.2.2.1 bt194.2.2.2.1 bt194.2.2.2.2.1 bt194.2.2.2.2.2.1)) else (none)) else (some ((⟨#[]⟩ : ByteArray), (⟨#[]⟩ : ByteArray), 0, (⟨#[]⟩ : ByteArray), 0, ([] : List (S37)), bt194.2.2.2.2.2.2)))))) else (none)))
theorem head_Parse.mono_l : ∀ k, (∀ y0 y1 y2 y3 y4 y5 y6 y7 y8, LeO (head_Parse.l0 k y0 y1 y2 y3 y4 y5 y6 y7 y8) (head_Parse.l0 (k + 1) y0 y1 y2 y3 y4 y5 y6 y7 y8))
 | 0 => fun _ _ _ _ _ _ _ _ _ r h => by simp [head_Parse.l0] at h
 | k + 1 => by
  have ih0 := head_Parse.mono_l k
  ·intro y0 y1 y2 y3 y4 y5 y6 y7 y8
   unfold head_Parse.l0
   repeat' first
   | (with_reducible exact ih0 _ _ _ _ _ _ _ _ _)
   | (with_reducible exact field_Parse.mono _ _)
   | (with_reducible exact head_pick.mono _ _ _)
   | (with_reducible exact LeO.refl _)
   | (with_reducible exact LeO.none _)
   | (with_reducible refine LeO.ite ?_ ?_)
   | (with_reducible refine LeO.bind ?_ (fun _ => ?_))
   | exact ih0 _ _ _ _ _ _ _ _ _
   | exact field_Parse.mono _ _
   | exact head_pick.mono _ _ _
   | exact LeO.none _
   | refine LeO.ite ?_ ?_
   | refine LeO.bind ?_ (fun _ => ?_)
theorem head_Parse.mono : ∀ a0 a1 k, LeO (head_Parse.f k a0 a1) (head_Parse.f (k + 1) a0 a1) := by
 intro a0 a1 k
 have ih0 := head_Parse.mono_l k
 unfold head_Parse.f
 repeat' first
   | (with_reducible exact ih0 _ _ _ _ _ _ _ _ _)
   | (with_reducible exact field_Parse.mono _ _)
   | (with_reducible exact head_pick.mono _ _ _)
   | (with_reducible exact LeO.refl _)
   | (with_reducible exact LeO.none _)
   | (with_reducible refine LeO.ite ?_ ?_)
   | (with_reducible refine LeO.bind ?_ (fun _ => ?_))
   | exact ih0 _ _ _ _ _ _ _ _ _
   | exact field_Parse.mono _ _
   | exact head_pick.mono _ _ _
   | exact LeO.none _
   | refine LeO.ite ?_ ?_
   | refine LeO.bind ?_ (fun _ => ?_)
set_option maxHeartbeats 8000000 in
set_option maxRecDepth 100000 in
theorem head_Parse.calls (k : Nat) (a0 : ByteArray) (a1 : Bool) (r1 : ByteArray) (r2 : ByteArray) (r3 : Int) (r4 : ByteArray) (r5 : Int) (r6 : List (S37)) (r7 : Int) (w : World) (hG_ : H.GlobOk w) (h : head_Parse.f k a0 a1 = some (r1, r2, r3, r4, r5, r6, r7)) :
  Calls Tryz.prog 15 #[.string a0, .bool a1] w fun e w' => ∃ v5_ : Value, e = .returned (.tuple #[.agg #[.string r1, .string r2, .int .i64 r3, .string r4, .int .i64 r5, v5_], .int .i64 r7]) ∧ Kd.R k37 37 w' w.heap.size (fun _ => True) v5_ r6 ∧ Below w.heap.size w w' := by
 have HG_ := aM hG_
 clear hG_
 have hu30 := Tryz.underlying30
 have hu37 := Tryz.underlying37
 have HB := aM (Below.refl w.heap.size w)
 have H : (if (a0.size : Int) > 2000 then (some ((⟨#[]⟩ : ByteArray), (⟨#[]⟩ : ByteArray), 0, (⟨#[]⟩ : ByteArray), 0, ([] : List (S37)), 2)) else ((strings_Split.f a0 (⟨#[13, 10]⟩ : ByteArray)).bind fun t187 => (if 0 < (t187.length : Int) then ((strings_SplitN.f (rdOf ByteArray.empty t187 0) (⟨#[32]⟩ : ByteArray) 3).bind fun t191 => (if (t191.length : Int) < 3 then (some ((⟨#[]⟩ : ByteArray), (⟨#[]⟩ : ByteArray), 0, (⟨#[]⟩ : ByteArray), 0, ([] : List (S37)), 20)) else ((head_pick.f k a1 t191).bind fun bt194 => (if bt194.2.2.2.2.2.2 = 0 then (if 1 ≤ (t187.length : Int) then ((some (t187.drop 1 : List ByteArray)).bind fun y204 => (head_Parse.l0 k y204 (y204.length : Int) 0 bt194.1 bt194.2.1 bt194.2.2.1 bt194.2.2.2.1 bt194.2.2.2.2.1 bt194.2.2.2.2.2.1)) else (none)) else (some ((⟨#[]⟩ : ByteArray), (⟨#[]⟩ : ByteArray), 0, (⟨#[]⟩ : ByteArray), 0, ([] : List (S37)), bt194.2.2.2.2.2.2)))))) else (none)))) = some (r1, r2, r3, r4, r5, r6, r7) := h
 clear h
 by_cases c3 : (a0.size : Int) > 2000
 ·rw [if_pos c3] at H
  have c3b0 : decide (2000 < (a0.size : Int)) = true := decide_eq_true c3
  have c3b1 : decide (2000 < a0.size) = true := decide_eq_true (by omega)
  clear c3
  simp only [Option.some.injEq, Prod.mk.injEq] at H
  obtain ⟨rfl, rfl, rfl, rfl, rfl, rfl, rfl⟩ := H
  go_enter Tryz.func15, Tryz.ntmps15
  go_wp2_with (first | ((with_reducible refine gate_dst (N := 4) rfl ?_); refine box_event ?hg (N := 4) ?hd (cs := #[.string (⟨#[]⟩ : ByteArray), .string (⟨#[]⟩ : ByteArray), .int .i64 0, .string (⟨#[]⟩ : ByteArray), .int .i64 0, .slice none 0 0]) (t := 30) ?hr ?_; (case hd => rfl); (case hg => rfl); (case hr => first | (go_simp; done) | (go_simp; rfl)); intro gb186 hg w4 hbox hb; have n0_ := aM (below_step (by repeat (first | (with_reducible first | exact HB.out | apply lA | apply lN | apply lD) | exact HB.out)) hb); have n1_ := aM (hbox); have n2_ := aM ((by rw [hg]; exact (below_size (by repeat (first | (with_reducible first | exact HB.out | apply lA | apply lN | apply lD) | exact HB.out))) : w.heap.size ≤ gb186)); have n3_ := n2_; clear HB; have HB := n0_; have BK186 := n1_; have GW186 := n2_; have GE186 := n3_; clear n0_ n1_ n2_ n3_; clear hb hbox hg; obtain ⟨hcz5_0, hcz5_1, hcz5_2, hcz5_3, hcz5_4, hcz5_5, hfz5_0, hfz5_1, hfz5_2, hfz5_3, hfz5_4, hfz5_5⟩ := cz6 BK186.out))
  refine bodyPost_ret (results_ct rfl _ _ gb186 30 #[.string (⟨#[]⟩ : ByteArray), .string (⟨#[]⟩ : ByteArray), .int .i64 0, .string (⟨#[]⟩ : ByteArray), .int .i64 0, .slice none 0 0] (0, 0) _ rfl (by (repeat (first | (with_reducible first | refine bN ?_ _ | refine bD ?_ | refine bA ?_ _ | apply p6_5 | apply p6_4 | apply p6_3 | apply p6_2 | apply p6_1 | apply p6_0))); exact BK186.out) Tryz.underlying30 rfl (by kernel_rfl)) rfl ?_
  exact ⟨_, by first | rfl | (simp [errW_none, errW_some] <;> rfl) | (simp [*, errW_none, errW_some] <;> rfl), by first | exact Kd.R_nil _ _ _ _ _ | exact Kd.N_nil _ _ _ _ _ | exact Kd.V_nil _ _ _ _ _ | exact Kd.Q_nil _ _ _ _ _ | exact Kd.S_nil _ _ _ _ _, by repeat (first | (with_reducible first | exact HB.out | apply lA | apply lN | apply lD | refine below_set ?_ GE186.out) | exact HB.out)⟩
 ·rw [if_neg c3] at H
  have c3b0 : decide (2000 < (a0.size : Int)) = false := decide_eq_false c3
  have c3b1 : decide (2000 < a0.size) = false := decide_eq_false (by omega)
  clear c3
  replace H := Option.bind_eq_some_iff.mp H
  obtain ⟨t187, A60, H⟩ := H
  replace H : (if 0 < (t187.length : Int) then ((strings_SplitN.f (rdOf ByteArray.empty t187 0) (⟨#[32]⟩ : ByteArray) 3).bind fun t191 => (if (t191.length : Int) < 3 then (some ((⟨#[]⟩ : ByteArray), (⟨#[]⟩ : ByteArray), 0, (⟨#[]⟩ : ByteArray), 0, ([] : List (S37)), 20)) else ((head_pick.f k a1 t191).bind fun bt194 => (if bt194.2.2.2.2.2.2 = 0 then (if 1 ≤ (t187.length : Int) then ((some (t187.drop 1 : List ByteArray)).bind fun y204 => (head_Parse.l0 k y204 (y204.length : Int) 0 bt194.1 bt194.2.1 bt194.2.2.1 bt194.2.2.2.1 bt194.2.2.2.2.1 bt194.2.2.2.2.2.1)) else (none)) else (some ((⟨#[]⟩ : ByteArray), (⟨#[]⟩ : ByteArray), 0, (⟨#[]⟩ : ByteArray), 0, ([] : List (S37)), bt194.2.2.2.2.2.2)))))) else (none)) = some (r1, r2, r3, r4, r5, r6, r7) := H
  have A6 := aM A60
  clear A60
  by_cases c7 : 0 < (t187.length : Int)
  ·rw [if_pos c7] at H
   have c7b0 : decide (0 < (t187.length : Int)) = true := decide_eq_true c7
   have c7b1 : decide (0 < t187.length) = true := decide_eq_true (by omega)
   clear c7
   replace H := Option.bind_eq_some_iff.mp H
   obtain ⟨t191, A80, H⟩ := H
   replace H : (if (t191.length : Int) < 3 then (some ((⟨#[]⟩ : ByteArray), (⟨#[]⟩ : ByteArray), 0, (⟨#[]⟩ : ByteArray), 0, ([] : List (S37)), 20)) else ((head_pick.f k a1 t191).bind fun bt194 => (if bt194.2.2.2.2.2.2 = 0 then (if 1 ≤ (t187.length : Int) then ((some (t187.drop 1 : List ByteArray)).bind fun y204 => (head_Parse.l0 k y204 (y204.length : Int) 0 bt194.1 bt194.2.1 bt194.2.2.1 bt194.2.2.2.1 bt194.2.2.2.2.1 bt194.2.2.2.2.2.1)) else (none)) else (some ((⟨#[]⟩ : ByteArray), (⟨#[]⟩ : ByteArray), 0, (⟨#[]⟩ : ByteArray), 0, ([] : List (S37)), bt194.2.2.2.2.2.2))))) = some (r1, r2, r3, r4, r5, r6, r7) := H
   have A8 := aM A80
   clear A80
   by_cases c9 : (t191.length : Int) < 3
   ·rw [if_pos c9] at H
    have c9b0 : decide ((t191.length : Int) < 3) = true := decide_eq_true c9
    have c9b1 : decide (t191.length < 3) = true := decide_eq_true (by omega)
    clear c9
    simp only [Option.some.injEq, Prod.mk.injEq] at H
    obtain ⟨rfl, rfl, rfl, rfl, rfl, rfl, rfl⟩ := H
    go_enter Tryz.func15, Tryz.ntmps15
    go_wp2_with (first | ((with_reducible refine gate_dst (N := 4) rfl ?_); refine box_event ?hg (N := 4) ?hd (cs := #[.string (⟨#[]⟩ : ByteArray), .string (⟨#[]⟩ : ByteArray), .int .i64 0, .string (⟨#[]⟩ : ByteArray), .int .i64 0, .slice none 0 0]) (t := 30) ?hr ?_; (case hd => rfl); (case hg => rfl); (case hr => first | (go_simp; done) | (go_simp; rfl)); intro gb186 hg w10 hbox hb; have n0_ := aM (below_step (by repeat (first | (with_reducible first | exact HB.out | apply lA | apply lN | apply lD) | exact HB.out)) hb); have n1_ := aM (hbox); have n2_ := aM ((by rw [hg]; exact (below_size (by repeat (first | (with_reducible first | exact HB.out | apply lA | apply lN | apply lD) | exact HB.out))) : w.heap.size ≤ gb186)); have n3_ := n2_; clear HB; have HB := n0_; have BK186 := n1_; have GW186 := n2_; have GE186 := n3_; clear n0_ n1_ n2_ n3_; clear hb hbox hg) | ((with_reducible refine gate_callee (f := 24) rfl ?_); refine goesL_ (some 20) rfl rfl Tryz.func24 (by kernel_rfl) rfl #[.string a0, .string (⟨#[13, 10]⟩ : ByteArray)] rfl (by (try simp only [List.map_toArray, List.map_cons, List.map_nil]); first | done | rfl | (simp only [List.length_drop, List.length_take]; rfl)) ?_; (with_reducible refine (strings_Split.calls a0 (⟨#[13, 10]⟩ : ByteArray) t187 _ ?side1 A6.out).mono ?_); (case side1 => exact glob_below HG_.out (by repeat (first | (with_reducible first | exact HB.out | apply lA | apply lN | apply lD | refine below_set ?_ GE186.out) | exact HB.out))); rintro e w11 ⟨v188, rfl, ho0, hb⟩; refine ⟨_, rfl, ?_⟩; have n0_ := aM (Kd.R_lower ho0 (below_size (by repeat (first | (with_reducible first | exact HB.out | apply lA | apply lN | apply lD | refine below_set ?_ GE186.out) | exact HB.out)))); have n1_ := aM (blk_below (g := gb186) (o := .cells #[.string (⟨#[]⟩ : ByteArray), .string (⟨#[]⟩ : ByteArray), .int .i64 0, .string (⟨#[]⟩ : ByteArray), .int .i64 0, .slice none 0 0] 30 (0, 0)) (by (with_reducible repeat (first | refine bN ?_ _ | refine bD ?_ | refine bA ?_ _)); exact BK186.out) hb); have n2_ := aM (below_step (by repeat (first | (with_reducible first | exact HB.out | apply lA | apply lN | apply lD | refine below_set ?_ GE186.out) | exact HB.out)) hb); clear BK186 HB; have HO189 := n0_; have BK186 := n1_; have HB := n2_; clear n0_ n1_ n2_; (try clear hb); (try clear hb2); (try clear hk); (try clear hi); (try clear ho0); obtain ⟨Ao12, co12, eo12⟩ := Kd.R_slice HO189.out; subst eo12; have p190 : 0 ≤ (0 : Int) := (by omega); have q190 : 0 < (t187.length : Int) := of_decide_eq_true (by first | (with_reducible assumption) | assumption); obtain ⟨ad190, e190, hx190_0⟩ := Kd.at_string (Kd.R_reads' HO189.out).2.2 0 p190 q190; cases e190; have qi190 : (0 < t187.length) = True := eq_true (by omega); (try rw [show ((0 : Int)).toNat = 0 from rfl] at hx190_0); (try rw [Addr.add_zero'] at hx190_0); replace p190 := eq_true p190; replace q190 := eq_true q190) | ((with_reducible refine gate_callee (f := 25) rfl ?_); refine goesL_ (some 24) rfl rfl Tryz.func25 (by kernel_rfl) rfl #[.string (rdOf ByteArray.empty t187 0), .string (⟨#[32]⟩ : ByteArray), .int .i64 3] rfl (by (try simp only [List.map_toArray, List.map_cons, List.map_nil]); first | done | rfl | (simp only [List.length_drop, List.length_take]; rfl)) ?_; (with_reducible refine (strings_SplitN.calls (rdOf ByteArray.empty t187 0) (⟨#[32]⟩ : ByteArray) 3 t191 _ ?side1 A8.out).mono ?_); (case side1 => exact glob_below HG_.out (by repeat (first | (with_reducible first | exact HB.out | apply lA | apply lN | apply lD | refine below_set ?_ GE186.out) | exact HB.out))); rintro e w13 ⟨v192, rfl, ho0, hb⟩; refine ⟨_, rfl, ?_⟩; have n0_ := aM (Kd.R_elder' (by (with_reducible repeat (first | apply rA | apply rN | apply rD)); exact HO189.out) (Kd.R_base ho0) hb); have n1_ := aM (Kd.R_lower (Kd.R_new' ho0 (Kd.R_lt (by (with_reducible repeat (first | apply rA | apply rN | apply rD)); exact HO189.out))) (below_size (by repeat (first | (with_reducible first | exact HB.out | apply lA | apply lN | apply lD | refine below_set ?_ GE186.out) | exact HB.out)))); have n2_ := aM (blk_below (g := gb186) (o := .cells #[.string (⟨#[]⟩ : ByteArray), .string (⟨#[]⟩ : ByteArray), .int .i64 0, .string (⟨#[]⟩ : ByteArray), .int .i64 0, .slice none 0 0] 30 (0, 0)) (by (with_reducible repeat (first | refine bN ?_ _ | refine bD ?_ | refine bA ?_ _)); exact BK186.out) hb); have n3_ := aM (below_step (by repeat (first | (with_reducible first | exact HB.out | apply lA | apply lN | apply lD | refine below_set ?_ GE186.out) | exact HB.out)) hb); clear HO189 BK186 HB; have HO189 := n0_; have HO193 := n1_; have BK186 := n2_; have HB := n3_; clear n0_ n1_ n2_ n3_; (try clear hb); (try clear hb2); (try clear hk); (try clear hi); (try clear ho0); obtain ⟨Ao14, co14, eo14⟩ := Kd.R_slice HO193.out; subst eo14; obtain ⟨hcz15_0, hcz15_1, hcz15_2, hcz15_3, hcz15_4, hcz15_5, hfz15_0, hfz15_1, hfz15_2, hfz15_3, hfz15_4, hfz15_5⟩ := cz6 BK186.out))
    refine bodyPost_ret (results_ct rfl _ _ gb186 30 #[.string (⟨#[]⟩ : ByteArray), .string (⟨#[]⟩ : ByteArray), .int .i64 0, .string (⟨#[]⟩ : ByteArray), .int .i64 0, .slice none 0 0] (0, 0) _ rfl (by (repeat (first | (with_reducible first | refine bN ?_ _ | refine bD ?_ | refine bA ?_ _ | apply p6_5 | apply p6_4 | apply p6_3 | apply p6_2 | apply p6_1 | apply p6_0))); exact BK186.out) Tryz.underlying30 rfl (by kernel_rfl)) rfl ?_
    exact ⟨_, by first | rfl | (simp [errW_none, errW_some] <;> rfl) | (simp [*, errW_none, errW_some] <;> rfl), by first | exact Kd.R_nil _ _ _ _ _ | exact Kd.N_nil _ _ _ _ _ | exact Kd.V_nil _ _ _ _ _ | exact Kd.Q_nil _ _ _ _ _ | exact Kd.S_nil _ _ _ _ _, by repeat (first | (with_reducible first | exact HB.out | apply lA | apply lN | apply lD | refine below_set ?_ GE186.out) | exact HB.out)⟩
   ·rw [if_neg c9] at H
    have c9b0 : decide ((t191.length : Int) < 3) = false := decide_eq_false c9
    have c9b1 : decide (t191.length < 3) = false := decide_eq_false (by omega)
    clear c9
    replace H := Option.bind_eq_some_iff.mp H
    obtain ⟨⟨t194, t195, t196, t197, t198, t199, t202⟩, A160, H⟩ := H
    replace H : (if t202 = 0 then (if 1 ≤ (t187.length : Int) then ((some (t187.drop 1 : List ByteArray)).bind fun y204 => (head_Parse.l0 k y204 (y204.length : Int) 0 t194 t195 t196 t197 t198 t199)) else (none)) else (some ((⟨#[]⟩ : ByteArray), (⟨#[]⟩ : ByteArray), 0, (⟨#[]⟩ : ByteArray), 0, ([] : List (S37)), t202))) = some (r1, r2, r3, r4, r5, r6, r7) := H
    have A16 := aM A160
    clear A160
    by_cases c17 : t202 = 0
    ·rw [if_pos c17] at H
     have c17b0 : (t202 == 0) = true := beq_iff_eq.mpr c17
     have c17b1 : (t202 != 0) = false := bne_eq_false_iff_eq.mpr c17
     clear c17
     by_cases c18 : 1 ≤ (t187.length : Int)
     ·rw [if_pos c18] at H
      have c18b0 := eq_true c18
      have c18b1 : decide (1 ≤ (t187.length : Int)) = true := decide_eq_true c18
      clear c18
      obtain ⟨y204, hy204⟩ : ∃ y_ : List ByteArray, y_ = (t187.drop 1) := ⟨_, rfl⟩
      replace H : (head_Parse.l0 k y204 (y204.length : Int) 0 t194 t195 t196 t197 t198 t199) = some (r1, r2, r3, r4, r5, r6, r7) := by first | (rw [hy204]; with_reducible exact H) | (have H2_ := (Option.bind_some _ _).symm.trans H; rw [hy204]; with_reducible exact H2_) | (have H2_ := (Option.bind_some _ _).symm.trans H; with_reducible exact H2_) | with_reducible exact H | (rw [hy204]; exact H) | exact H
      have Ny204 := aM hy204
      clear hy204
      have H' := aM H
      clear H
      go_enter Tryz.func15, Tryz.ntmps15
      go_wp2_with (first | ((with_reducible refine gate_dst (N := 4) rfl ?_); refine box_event ?hg (N := 4) ?hd (cs := #[.string (⟨#[]⟩ : ByteArray), .string (⟨#[]⟩ : ByteArray), .int .i64 0, .string (⟨#[]⟩ : ByteArray), .int .i64 0, .slice none 0 0]) (t := 30) ?hr ?_; (case hd => rfl); (case hg => rfl); (case hr => first | (go_simp; done) | (go_simp; rfl)); intro gb186 hg w19 hbox hb; have n0_ := aM (below_step (by repeat (first | (with_reducible first | exact HB.out | apply lA | apply lN | apply lD) | exact HB.out)) hb); have n1_ := aM (hbox); have n2_ := aM ((by rw [hg]; exact (below_size (by repeat (first | (with_reducible first | exact HB.out | apply lA | apply lN | apply lD) | exact HB.out))) : w.heap.size ≤ gb186)); have n3_ := n2_; clear HB; have HB := n0_; have BK186 := n1_; have GW186 := n2_; have GE186 := n3_; clear n0_ n1_ n2_ n3_; clear hb hbox hg) | ((with_reducible refine gate_callee (f := 24) rfl ?_); refine goesL_ (some 20) rfl rfl Tryz.func24 (by kernel_rfl) rfl #[.string a0, .string (⟨#[13, 10]⟩ : ByteArray)] rfl (by (try simp only [List.map_toArray, List.map_cons, List.map_nil]); first | done | rfl | (simp only [List.length_drop, List.length_take]; rfl)) ?_; (with_reducible refine (strings_Split.calls a0 (⟨#[13, 10]⟩ : ByteArray) t187 _ ?side1 A6.out).mono ?_); (case side1 => exact glob_below HG_.out (by repeat (first | (with_reducible first | exact HB.out | apply lA | apply lN | apply lD | refine below_set ?_ GE186.out) | exact HB.out))); rintro e w20 ⟨v188, rfl, ho0, hb⟩; refine ⟨_, rfl, ?_⟩; have n0_ := aM (Kd.R_lower ho0 (below_size (by repeat (first | (with_reducible first | exact HB.out | apply lA | apply lN | apply lD | refine below_set ?_ GE186.out) | exact HB.out)))); have n1_ := aM (blk_below (g := gb186) (o := .cells #[.string (⟨#[]⟩ : ByteArray), .string (⟨#[]⟩ : ByteArray), .int .i64 0, .string (⟨#[]⟩ : ByteArray), .int .i64 0, .slice none 0 0] 30 (0, 0)) (by (with_reducible repeat (first | refine bN ?_ _ | refine bD ?_ | refine bA ?_ _)); exact BK186.out) hb); have n2_ := aM (below_step (by repeat (first | (with_reducible first | exact HB.out | apply lA | apply lN | apply lD | refine below_set ?_ GE186.out) | exact HB.out)) hb); clear BK186 HB; have HO189 := n0_; have BK186 := n1_; have HB := n2_; clear n0_ n1_ n2_; (try clear hb); (try clear hb2); (try clear hk); (try clear hi); (try clear ho0); obtain ⟨Ao21, co21, eo21⟩ := Kd.R_slice HO189.out; subst eo21; have p190 : 0 ≤ (0 : Int) := (by omega); have q190 : 0 < (t187.length : Int) := of_decide_eq_true (by first | (with_reducible assumption) | assumption); obtain ⟨ad190, e190, hx190_0⟩ := Kd.at_string (Kd.R_reads' HO189.out).2.2 0 p190 q190; cases e190; have qi190 : (0 < t187.length) = True := eq_true (by omega); (try rw [show ((0 : Int)).toNat = 0 from rfl] at hx190_0); (try rw [Addr.add_zero'] at hx190_0); replace p190 := eq_true p190; replace q190 := eq_true q190) | ((with_reducible refine gate_callee (f := 25) rfl ?_); refine goesL_ (some 24) rfl rfl Tryz.func25 (by kernel_rfl) rfl #[.string (rdOf ByteArray.empty t187 0), .string (⟨#[32]⟩ : ByteArray), .int .i64 3] rfl (by (try simp only [List.map_toArray, List.map_cons, List.map_nil]); first | done | rfl | (simp only [List.length_drop, List.length_take]; rfl)) ?_; (with_reducible refine (strings_SplitN.calls (rdOf ByteArray.empty t187 0) (⟨#[32]⟩ : ByteArray) 3 t191 _ ?side1 A8.out).mono ?_); (case side1 => exact glob_below HG_.out (by repeat (first | (with_reducible first | exact HB.out | apply lA | apply lN | apply lD | refine below_set ?_ GE186.out) | exact HB.out))); rintro e w22 ⟨v192, rfl, ho0, hb⟩; refine ⟨_, rfl, ?_⟩; have n0_ := aM (Kd.R_elder' (by (with_reducible repeat (first | apply rA | apply rN | apply rD)); exact HO189.out) (Kd.R_base ho0) hb); have n1_ := aM (Kd.R_lower (Kd.R_new' ho0 (Kd.R_lt (by (with_reducible repeat (first | apply rA | apply rN | apply rD)); exact HO189.out))) (below_size (by repeat (first | (with_reducible first | exact HB.out | apply lA | apply lN | apply lD | refine below_set ?_ GE186.out) | exact HB.out)))); have n2_ := aM (blk_below (g := gb186) (o := .cells #[.string (⟨#[]⟩ : ByteArray), .string (⟨#[]⟩ : ByteArray), .int .i64 0, .string (⟨#[]⟩ : ByteArray), .int .i64 0, .slice none 0 0] 30 (0, 0)) (by (with_reducible repeat (first | refine bN ?_ _ | refine bD ?_ | refine bA ?_ _)); exact BK186.out) hb); have n3_ := aM (below_step (by repeat (first | (with_reducible first | exact HB.out | apply lA | apply lN | apply lD | refine below_set ?_ GE186.out) | exact HB.out)) hb); clear HO189 BK186 HB; have HO189 := n0_; have HO193 := n1_; have BK186 := n2_; have HB := n3_; clear n0_ n1_ n2_ n3_; (try clear hb); (try clear hb2); (try clear hk); (try clear hi); (try clear ho0); obtain ⟨Ao23, co23, eo23⟩ := Kd.R_slice HO193.out; subst eo23; have hmm_ := @run_makeMap Tryz.prog; have hp1_ := pick_put1 w22; have hp2_ := pick_put2 w22; have hl_ := pick_look w22 a1) | ((with_reducible refine gate_dyn (t := 34) rfl ?_); refine goesD_ 34 (some 36) rfl rfl (f := pickN a1) #[.slice Ao23 t191.length co23] (pick_enter a1) rfl rfl (by (try simp only [List.map_toArray, List.map_cons, List.map_nil]); first | done | rfl | (simp only [List.length_drop, List.length_take]; rfl)) ?_; (with_reducible refine (head_pick.calls a1 k _ _ t191 t194 t195 t196 t197 t198 t199 t202 _ ?side1 ?side2 A16.out).mono ?_); (case side1 => repeat (first | exact (Kd.R_reads' HO193.out).2.2 | (with_reducible refine Kd.C_alloc ?_ _) | (with_reducible refine Kd.C_drewN ?_ _) | (with_reducible refine Kd.C_drew ?_))); (case side2 => exact (Kd.R_reads' HO193.out).2.1); rintro e w24 ⟨v200, rfl, ho0, hb⟩; refine ⟨_, rfl, ?_⟩; have n0_ := aM (Kd.R_below (by (with_reducible repeat (first | apply rA | apply rN | apply rD)); exact HO189.out) hb); have n1_ := aM (Kd.R_below (by (with_reducible repeat (first | apply rA | apply rN | apply rD)); exact HO193.out) hb); have n2_ := aM (Kd.R_lower ho0 (below_size (by repeat (first | (with_reducible first | exact HB.out | apply lA | apply lN | apply lD | refine below_set ?_ GE186.out) | exact HB.out)))); have n3_ := aM (blk_below (g := gb186) (o := .cells #[.string (⟨#[]⟩ : ByteArray), .string (⟨#[]⟩ : ByteArray), .int .i64 0, .string (⟨#[]⟩ : ByteArray), .int .i64 0, .slice none 0 0] 30 (0, 0)) (by (with_reducible repeat (first | refine bN ?_ _ | refine bD ?_ | refine bA ?_ _)); exact BK186.out) hb); have n4_ := aM (below_step (by repeat (first | (with_reducible first | exact HB.out | apply lA | apply lN | apply lD | refine below_set ?_ GE186.out) | exact HB.out)) hb); clear HO189 HO193 BK186 HB; have HO189 := n0_; have HO193 := n1_; have HO201 := n2_; have BK186 := n3_; have HB := n4_; clear n0_ n1_ n2_ n3_ n4_; (try clear hb); (try clear hb2); (try clear hk); (try clear hi); (try clear ho0)) | ((with_reducible refine gate_dst (N := 9) rfl ?_); refine box_event ?hg (N := 9) ?hd (cs := #[.string (⟨#[]⟩ : ByteArray), .string (⟨#[]⟩ : ByteArray), .int .i64 0, .string (⟨#[]⟩ : ByteArray), .int .i64 0, .slice none 0 0]) (t := 30) ?hr ?_; (case hd => rfl); (case hg => rfl); (case hr => first | (go_simp; done) | (go_simp; rfl)); intro gb203 hg w25 hbox hb; have n0_ := aM (Kd.R_below (by (with_reducible repeat (first | apply rA | apply rN | apply rD)); exact HO189.out) hb); have n1_ := aM (Kd.R_below (by (with_reducible repeat (first | apply rA | apply rN | apply rD)); exact HO193.out) hb); have n2_ := aM (Kd.R_below (by (with_reducible repeat (first | apply rA | apply rN | apply rD)); exact HO201.out) hb); have n3_ := aM (blk_below (g := gb186) (o := .cells #[.string (⟨#[]⟩ : ByteArray), .string (⟨#[]⟩ : ByteArray), .int .i64 0, .string (⟨#[]⟩ : ByteArray), .int .i64 0, .slice none 0 0] 30 (0, 0)) (by (with_reducible repeat (first | refine bN ?_ _ | refine bD ?_ | refine bA ?_ _)); exact BK186.out) hb); have n4_ := aM (below_step (by repeat (first | (with_reducible first | exact HB.out | apply lA | apply lN | apply lD | refine below_set ?_ GE186.out) | exact HB.out)) hb); have n5_ := aM (hbox); have n6_ := aM ((by rw [hg]; exact (below_size (by repeat (first | (with_reducible first | exact HB.out | apply lA | apply lN | apply lD | refine below_set ?_ GE186.out) | exact HB.out))) : w.heap.size ≤ gb203)); have n7_ := n6_; have n8_ := aM ((by rw [hg]; exact Nat.ne_of_lt (blk_lt (by (with_reducible repeat (first | refine bN ?_ _ | refine bD ?_ | refine bA ?_ _)); exact BK186.out)) : gb186 ≠ gb203)); have n9_ := aM (n8_.out.symm); clear HO189 HO193 HO201 BK186 HB; have HO189 := n0_; have HO193 := n1_; have HO201 := n2_; have BK186 := n3_; have HB := n4_; have BK203 := n5_; have GW203 := n6_; have GE203 := n7_; have NB186_203 := n8_; have NB203_186 := n9_; clear n0_ n1_ n2_ n3_ n4_ n5_ n6_ n7_ n8_ n9_; clear hb hbox hg; have hnb26 := NB203_186.out; have hnc26 := NB186_203.out; obtain ⟨hcz27_0, hcz27_1, hcz27_2, hcz27_3, hcz27_4, hcz27_5, hfz27_0, hfz27_1, hfz27_2, hfz27_3, hfz27_4, hfz27_5⟩ := cz6 BK203.out; obtain ⟨Ao28, co28, eo28⟩ := Kd.R_slice HO201.out; subst eo28) | ((with_reducible refine gate_store (t := 30) (p := 9) rfl ?_); refine store_event (t := 30) (p := 9) (v := ?vo_w29) (w1 := ((((((w25.setCell ⟨gb203, 0, none⟩ (.string t194)).setCell ⟨gb203, 1, none⟩ (.string t195)).setCell ⟨gb203, 2, none⟩ (.int .i64 t196)).setCell ⟨gb203, 3, none⟩ (.string t197)).setCell ⟨gb203, 4, none⟩ (.int .i64 t198)).setCell ⟨gb203, 5, none⟩ (.slice Ao28 t199.length co28))) ?hg ?ho ?hn ?hr ?_; (case ho => rfl); (case hg => rfl); (case hn => rfl); (case hr => first | (go_simp; done) | (go_simp; rfl)); intro w29 hw; have n0_ : Aside0 (Kd.R Kd.string 9 w29 w.heap.size (fun k_ => some k_ ≠ (.slice Ao23 t191.length co23 : Value).ownBlock) (.slice (some ad190) t187.length co21) t187) := ⟨(by rw [hw]; exact (by (with_reducible repeat (first | apply rA | apply rN | apply rD)); exact Kd.R_mono (Kd.R_far (p := ⟨gb203, 5, none⟩) (Kd.R_far (p := ⟨gb203, 4, none⟩) (Kd.R_far (p := ⟨gb203, 3, none⟩) (Kd.R_far (p := ⟨gb203, 2, none⟩) (Kd.R_far (p := ⟨gb203, 1, none⟩) (Kd.R_far (p := ⟨gb203, 0, none⟩) (Kd.R_types HO189.out BK203.out (by decide)) (fun _ hk => hk.2) (.string t194)) (fun _ hk => hk.2) (.string t195)) (fun _ hk => hk.2) (.int .i64 t196)) (fun _ hk => hk.2) (.string t197)) (fun _ hk => hk.2) (.int .i64 t198)) (fun _ hk => hk.2) (.slice Ao28 t199.length co28)) (fun _ hk => hk.1.2)))⟩; have n1_ : Aside0 (Kd.R Kd.string 9 w29 w.heap.size (fun k_ => some k_ ≠ (.slice (some ad190) t187.length co21 : Value).ownBlock) (.slice Ao23 t191.length co23) t191) := ⟨(by rw [hw]; exact (by (with_reducible repeat (first | apply rA | apply rN | apply rD)); exact Kd.R_mono (Kd.R_far (p := ⟨gb203, 5, none⟩) (Kd.R_far (p := ⟨gb203, 4, none⟩) (Kd.R_far (p := ⟨gb203, 3, none⟩) (Kd.R_far (p := ⟨gb203, 2, none⟩) (Kd.R_far (p := ⟨gb203, 1, none⟩) (Kd.R_far (p := ⟨gb203, 0, none⟩) (Kd.R_types HO193.out BK203.out (by decide)) (fun _ hk => hk.2) (.string t194)) (fun _ hk => hk.2) (.string t195)) (fun _ hk => hk.2) (.int .i64 t196)) (fun _ hk => hk.2) (.string t197)) (fun _ hk => hk.2) (.int .i64 t198)) (fun _ hk => hk.2) (.slice Ao28 t199.length co28)) (fun _ hk => hk.1.2)))⟩; have n2_ : Aside0 (Kd.R k37 37 w29 w.heap.size (fun _ => True) (.slice Ao28 t199.length co28) t199) := ⟨(by rw [hw]; exact (by (with_reducible repeat (first | apply rA | apply rN | apply rD)); exact Kd.R_mono (Kd.R_far (p := ⟨gb203, 5, none⟩) (Kd.R_far (p := ⟨gb203, 4, none⟩) (Kd.R_far (p := ⟨gb203, 3, none⟩) (Kd.R_far (p := ⟨gb203, 2, none⟩) (Kd.R_far (p := ⟨gb203, 1, none⟩) (Kd.R_far (p := ⟨gb203, 0, none⟩) (Kd.R_types HO201.out BK203.out (by decide)) (fun _ hk => hk.2) (.string t194)) (fun _ hk => hk.2) (.string t195)) (fun _ hk => hk.2) (.int .i64 t196)) (fun _ hk => hk.2) (.string t197)) (fun _ hk => hk.2) (.int .i64 t198)) (fun _ hk => hk.2) (.slice Ao28 t199.length co28)) (fun _ hk => trivial)))⟩; have n3_ : Aside0 (w29.heap[gb186]? = some (.cells #[.string (⟨#[]⟩ : ByteArray), .string (⟨#[]⟩ : ByteArray), .int .i64 0, .string (⟨#[]⟩ : ByteArray), .int .i64 0, .slice none 0 0] 30 (0, 0))) := ⟨(by rw [hw]; exact (by (repeat (first | (with_reducible first | refine bN ?_ _ | refine bD ?_ | refine bA ?_ _) | refine blk_far ?_ NB186_203.out _)); exact BK186.out))⟩; have n4_ : Aside0 (w29.heap[gb203]? = some (.cells #[.string t194, .string t195, .int .i64 t196, .string t197, .int .i64 t198, .slice Ao28 t199.length co28] 30 (0, 0))) := ⟨(by rw [hw]; exact (by (repeat (first | (with_reducible first | refine bN ?_ _ | refine bD ?_ | refine bA ?_ _ | apply p6_5 | apply p6_4 | apply p6_3 | apply p6_2 | apply p6_1 | apply p6_0))); exact BK203.out))⟩; have n5_ : Aside0 (Below w.heap.size w w29) := ⟨(by rw [hw]; exact (by repeat (first | (with_reducible first | exact HB.out | apply lA | apply lN | apply lD | refine below_set ?_ GE186.out | refine below_set ?_ GE203.out) | exact HB.out)))⟩; clear hw HO189 HO193 HO201 BK186 BK203 HB; have HO189 := n0_; have HO193 := n1_; have HO201 := n2_; have BK186 := n3_; have BK203 := n4_; have HB := n5_; clear n0_ n1_ n2_ n3_ n4_ n5_; have q30 : (1 : Int) ≤ ((t187.length : Int) : Int) := of_decide_eq_true (by first | (with_reducible assumption) | assumption); obtain ⟨i030, hi030, _, hsz30, _⟩ := info_parts info9; have hroom30 : t187.length ≤ co21 := (Kd.R_reads' HO189.out).2.1; have hC30 : Kd.C Kd.string _ (some ad190) t187.length t187 := (Kd.R_reads' HO189.out).2.2; have hcut30 := cut_from (P := Tryz.prog) 25 9 .i64 Tryz.underlying25 hi030 1 hsz30 (some ad190) t187.length co21 1 (by omega) q30; have hr30 := Kd.C_drop (m := (1 : Int).toNat) (c := co21) hC30 (by omega) hroom30; obtain ⟨A30, hA30⟩ : ∃ A1, A1 = (if co21 = (1 : Int).toNat then (some ad190) else ((some ad190) : Option Addr).map (·.add ((1 : Int).toNat * 1))) := ⟨_, rfl⟩; obtain ⟨c30, hc30⟩ : ∃ c1, c1 = co21 - (1 : Int).toNat := ⟨_, rfl⟩; have hy30 : y204.length = t187.length - (1 : Int).toNat := (by rw [Ny204.out, List.length_drop] <;> omega); rw [show (t187).drop (1 : Int).toNat = y204 from Ny204.out.symm] at hr30; replace hr30 : Kd.C Kd.string _ A30 y204.length y204 := (by rw [hA30]; exact hr30); rw [← hy30, ← hA30, ← hc30] at hcut30; have HR207 := aM hr30; have HC207 := aM (show y204.length ≤ c30 from by rw [hy30, hc30]; exact Nat.sub_le_sub_right hroom30 _); clear hr30 hC30 hroom30 hi030 hsz30 hc30; have KY30 := aM hy30; have KA30 := aM hA30; clear hy30 hA30; have KL30 := aM (show 1 ≤ t187.length from by omega); replace q30 := eq_true q30))
      go_loopg [46] k (fun kq v46 w' => ∃ (x46_1 : Int) (x187000_1 : ByteArray) (x187001_1 : ByteArray) (x187002_1 : Int) (x187003_1 : ByteArray) (x187004_1 : Int) (x204005_1 : List (S37)) (u204005 : Value), v46 = .int .i64 x46_1 ∧ Aside0 (head_Parse.l0 kq y204 (y204.length : Int) x46_1 t194 t195 t196 t197 t198 x204005_1 = some (r1, r2, r3, r4, r5, r6, r7)) ∧ Aside0 (kq ≤ k) ∧ Aside0 (Kd.R k37 37 w' w.heap.size (fun _ => True) u204005 x204005_1) ∧ Aside0 (w'.heap[gb186]? = some (.cells #[.string x187000_1, .string x187001_1, .int .i64 x187002_1, .string x187003_1, .int .i64 x187004_1, (.slice none 0 0)] 30 (0, 0))) ∧ Aside0 (w'.heap[gb203]? = some (.cells #[.string t194, .string t195, .int .i64 t196, .string t197, .int .i64 t198, u204005] 30 (0, 0))) ∧ Aside0 (Kd.R Kd.string 9 w' w.heap.size (fun _ => True) (.slice (some ad190) t187.length co21) t187) ∧ Aside0 (Below w.heap.size w w'))
      case atStart => exact ⟨(0), ((⟨#[]⟩ : ByteArray)), ((⟨#[]⟩ : ByteArray)), (0), ((⟨#[]⟩ : ByteArray)), (0), (t199), (.slice Ao28 t199.length co28), (by first | rfl | (simp; done) | (simp [*]; done)), H', ⟨Nat.le_refl _⟩, ⟨by (with_reducible repeat (first | apply rA | apply rN | apply rD)); exact HO201.out⟩, ⟨by (with_reducible repeat (first | refine bN ?_ _ | refine bD ?_ | refine bA ?_ _)); exact BK186.out⟩, ⟨by (with_reducible repeat (first | refine bN ?_ _ | refine bD ?_ | refine bA ?_ _)); exact BK203.out⟩, ⟨by (with_reducible repeat (first | apply rA | apply rN | apply rD)); exact Kd.R_mono HO189.out (fun _ _ => trivial)⟩, ⟨by repeat (first | (with_reducible first | exact HB.out | apply lA | apply lN | apply lD | refine below_set ?_ GE186.out | refine below_set ?_ GE203.out) | exact HB.out)⟩⟩
      case round =>
       clear H'
       try clear c1
       try clear p1
       try clear q1
       try clear hx1
       try clear qi1
       try clear c2
       try clear p2
       try clear c3
       try clear c3b0
       try clear c3b1
       try clear q3
       try clear c7
       try clear c7b0
       try clear c7b1
       try clear c9
       try clear c9b0
       try clear c9b1
       try clear c15
       try clear c17
       try clear c17b0
       try clear c17b1
       try clear c18
       try clear c18b0
       try clear c18b1
       try clear p19
       try clear q19
       try clear hx19
       try clear qi19
       try clear c24
       try clear c25
       try clear c26
       try clear c30
       try clear q30
       try clear hcz15_0
       try clear hcz15_1
       try clear hcz15_2
       try clear hcz15_3
       try clear hcz15_4
       try clear hcz15_5
       try clear hcz27_0
       try clear hcz27_1
       try clear hcz27_2
       try clear hcz27_3
       try clear hcz27_4
       try clear hcz27_5
       try clear hcz5_0
       try clear hcz5_1
       try clear hcz5_2
       try clear hcz5_3
       try clear hcz5_4
       try clear hcz5_5
       try clear hfz15_0
       try clear hfz15_1
       try clear hfz15_2
       try clear hfz15_3
       try clear hfz15_4
       try clear hfz15_5
       try clear hfz27_0
       try clear hfz27_1
       try clear hfz27_2
       try clear hfz27_3
       try clear hfz27_4
       try clear hfz27_5
       try clear hfz5_0
       try clear hfz5_1
       try clear hfz5_2
       try clear hfz5_3
       try clear hfz5_4
       try clear hfz5_5
       try clear hx190_0
       try clear p190
       try clear q190
       try clear q30
       obtain ⟨x46_1, x187000_1, x187001_1, x187002_1, x187003_1, x187004_1, x204005_1, u204005, rfl, HA, HK1, HO_204005, BK186, BK203, HOX, HB⟩ := hrel
       cases gk with
       | zero => exact absurd HA.out (by simp [head_Parse.l0])
       | succ k1 =>
        have H := HA.out
        clear HA
        simp only [head_Parse.l0] at H
        by_cases c31 : x46_1 < (y204.length : Int)
        ·rw [if_pos c31] at H
         have c31b0 : decide (x46_1 < (y204.length : Int)) = true := decide_eq_true c31
         clear c31
         by_cases c32 : 0 ≤ x46_1
         ·rw [if_pos c32] at H
          have c32b0 : decide (0 ≤ x46_1) = true := decide_eq_true c32
          clear c32
          by_cases c33 : x46_1 < (y204.length : Int)
          ·rw [if_pos c33] at H
           have c33b0 : decide (x46_1 < (y204.length : Int)) = true := decide_eq_true c33
           clear c33
           by_cases c34 : (x204005_1.length : Int) = 20
           ·rw [if_pos c34] at H
            have c34b0 : ((x204005_1.length : Int) == 20) = true := beq_iff_eq.mpr c34
            have c34b1 : ((x204005_1.length : Int) != 20) = false := bne_eq_false_iff_eq.mpr c34
            clear c34
            simp only [Option.some.injEq, Prod.mk.injEq] at H
            obtain ⟨rfl, rfl, rfl, rfl, rfl, rfl, rfl⟩ := H
            have p208 : 0 ≤ (x46_1 : Int) := of_decide_eq_true (by first | (with_reducible assumption) | assumption)
            have q208 : x46_1 < (y204.length : Int) := of_decide_eq_true (by first | (with_reducible assumption) | assumption)
            have hC_ := (Kd.R_reads' HOX.out).2.2
            have hroom_ := (Kd.R_reads' HOX.out).2.1
            have hr_ := Kd.C_drop (m := (1 : Int).toNat) (c := co21) hC_ (by have := KL30.out; omega) hroom_
            rw [show (t187).drop (1 : Int).toNat = y204 from Ny204.out.symm] at hr_
            replace hr_ : Kd.C Kd.string _ A30 y204.length y204 := (by rw [KA30.out]; exact hr_)
            obtain ⟨ad208, e208, hx208_0⟩ := Kd.at_string hr_ x46_1 p208 q208
            clear hC_ hroom_ hr_
            cases e208
            replace p208 := eq_true p208
            replace q208 := eq_true q208
            have hnb35 := NB203_186.out
            have hnc35 := NB186_203.out
            obtain ⟨hcz36_0, hcz36_1, hcz36_2, hcz36_3, hcz36_4, hcz36_5, hfz36_0, hfz36_1, hfz36_2, hfz36_3, hfz36_4, hfz36_5⟩ := cz6 BK203.out
            obtain ⟨Ao37, co37, eo37⟩ := Kd.R_slice HO_204005.out
            subst eo37
            obtain ⟨hcz38_0, hcz38_1, hcz38_2, hcz38_3, hcz38_4, hcz38_5, hfz38_0, hfz38_1, hfz38_2, hfz38_3, hfz38_4, hfz38_5⟩ := cz6 BK186.out
            go_wp2
            refine bodyPost_ret (results_ct rfl _ _ gb186 30 #[.string (⟨#[]⟩ : ByteArray), .string (⟨#[]⟩ : ByteArray), .int .i64 0, .string (⟨#[]⟩ : ByteArray), .int .i64 0, .slice none 0 0] (0, 0) _ rfl (by (repeat (first | (with_reducible first | refine bN ?_ _ | refine bD ?_ | refine bA ?_ _ | apply p6_5 | apply p6_4 | apply p6_3 | apply p6_2 | apply p6_1 | apply p6_0))); exact BK186.out) Tryz.underlying30 rfl (by kernel_rfl)) rfl ?_
            exact ⟨_, by first | rfl | (simp [errW_none, errW_some] <;> rfl) | (simp [*, errW_none, errW_some] <;> rfl), by first | exact Kd.R_nil _ _ _ _ _ | exact Kd.N_nil _ _ _ _ _ | exact Kd.V_nil _ _ _ _ _ | exact Kd.Q_nil _ _ _ _ _ | exact Kd.S_nil _ _ _ _ _, by repeat (first | (with_reducible first | exact HB.out | apply lA | apply lN | apply lD | refine below_set ?_ GE186.out | refine below_set ?_ GE203.out) | exact HB.out)⟩
           ·rw [if_neg c34] at H
            have c34b0 : ((x204005_1.length : Int) == 20) = false := beq_eq_false_iff_ne.mpr c34
            have c34b1 : ((x204005_1.length : Int) != 20) = true := bne_iff_ne.mpr c34
            replace H := Option.bind_eq_some_iff.mp H
            obtain ⟨⟨t209, t210, t211⟩, A390, H⟩ := H
            replace H : (if t211 = 0 then (if x204005_1.length < 4398046511104 then (head_Parse.l0 k1 y204 (y204.length : Int) (wrap64 (x46_1 + 1)) t194 t195 t196 t197 t198 (x204005_1 ++ [(⟨t209, t210⟩ : S37)])) else (none)) else (some ((⟨#[]⟩ : ByteArray), (⟨#[]⟩ : ByteArray), 0, (⟨#[]⟩ : ByteArray), 0, ([] : List (S37)), t211))) = some (r1, r2, r3, r4, r5, r6, r7) := H
            have A39 := aM A390
            clear A390
            by_cases c40 : t211 = 0
            ·rw [if_pos c40] at H
             have c40b0 : (t211 == 0) = true := beq_iff_eq.mpr c40
             have c40b1 : (t211 != 0) = false := bne_eq_false_iff_eq.mpr c40
             clear c40
             by_cases c41 : x204005_1.length < 4398046511104
             ·rw [if_pos c41] at H
              have LMc41 := aM c41
              clear c41
              obtain ⟨y213, hy213⟩ : ∃ y_ : List (S37), y_ = (x204005_1 ++ [(⟨t209, t210⟩ : S37)]) := ⟨_, rfl⟩
              replace H : (head_Parse.l0 k1 y204 (y204.length : Int) (wrap64 (x46_1 + 1)) t194 t195 t196 t197 t198 y213) = some (r1, r2, r3, r4, r5, r6, r7) := by first | (rw [hy213]; with_reducible exact H) | (have H2_ := (Option.bind_some _ _).symm.trans H; rw [hy213]; with_reducible exact H2_) | (have H2_ := (Option.bind_some _ _).symm.trans H; with_reducible exact H2_) | with_reducible exact H | (rw [hy213]; exact H) | exact H
              have Ny213 := aM hy213
              clear hy213
              have H' := aM H
              clear H
              have p208 : 0 ≤ (x46_1 : Int) := of_decide_eq_true (by first | (with_reducible assumption) | assumption)
              have q208 : x46_1 < (y204.length : Int) := of_decide_eq_true (by first | (with_reducible assumption) | assumption)
              have hC_ := (Kd.R_reads' HOX.out).2.2
              have hroom_ := (Kd.R_reads' HOX.out).2.1
              have hr_ := Kd.C_drop (m := (1 : Int).toNat) (c := co21) hC_ (by have := KL30.out; omega) hroom_
              rw [show (t187).drop (1 : Int).toNat = y204 from Ny204.out.symm] at hr_
              replace hr_ : Kd.C Kd.string _ A30 y204.length y204 := (by rw [KA30.out]; exact hr_)
              obtain ⟨ad208, e208, hx208_0⟩ := Kd.at_string hr_ x46_1 p208 q208
              clear hC_ hroom_ hr_
              cases e208
              replace p208 := eq_true p208
              replace q208 := eq_true q208
              have hnb42 := NB203_186.out
              have hnc42 := NB186_203.out
              obtain ⟨hcz43_0, hcz43_1, hcz43_2, hcz43_3, hcz43_4, hcz43_5, hfz43_0, hfz43_1, hfz43_2, hfz43_3, hfz43_4, hfz43_5⟩ := cz6 BK203.out
              obtain ⟨Ao44, co44, eo44⟩ := Kd.R_slice HO_204005.out
              subst eo44
              go_wp2_with (first | ((with_reducible refine gate_callee (f := 28) rfl ?_); refine goesL_ (some 57) rfl rfl Tryz.func28 (by kernel_rfl) rfl #[.string (rdOf ByteArray.empty y204 x46_1)] rfl (by (try simp only [List.map_toArray, List.map_cons, List.map_nil]); first | done | rfl | (simp only [List.length_drop, List.length_take]; rfl)) ?_; (with_reducible refine (field_Parse.calls k1 (rdOf ByteArray.empty y204 x46_1) t209 t210 t211 _ A39.out).mono ?_); rintro e w45 ⟨rfl, hb⟩; refine ⟨_, rfl, ?_⟩; have HOX := aM (Kd.R_below (by (with_reducible repeat (first | apply rA | apply rN | apply rD)); exact HOX.out) hb); have n0_ := aM (Kd.R_below (by (with_reducible repeat (first | apply rA | apply rN | apply rD)); exact HO_204005.out) hb); have n1_ := aM (blk_below (g := gb186) (o := .cells #[.string x187000_1, .string x187001_1, .int .i64 x187002_1, .string x187003_1, .int .i64 x187004_1, .slice none 0 0] 30 (0, 0)) (by (with_reducible repeat (first | refine bN ?_ _ | refine bD ?_ | refine bA ?_ _)); exact BK186.out) hb); have n2_ := aM (blk_below (g := gb203) (o := .cells #[.string t194, .string t195, .int .i64 t196, .string t197, .int .i64 t198, .slice Ao44 x204005_1.length co44] 30 (0, 0)) (by (with_reducible repeat (first | refine bN ?_ _ | refine bD ?_ | refine bA ?_ _)); exact BK203.out) hb); have n3_ := aM (below_step (by repeat (first | (with_reducible first | exact HB.out | apply lA | apply lN | apply lD | refine below_set ?_ GE186.out | refine below_set ?_ GE203.out) | exact HB.out)) hb); clear HO_204005 BK186 BK203 HB; have HO_204005 := n0_; have BK186 := n1_; have BK203 := n2_; have HB := n3_; clear n0_ n1_ n2_ n3_; (try clear hb); (try clear hb2); (try clear hk); (try clear hi)) | ((with_reducible refine gate_dst (N := 13) rfl ?_); refine box_event ?hg (N := 13) ?hd (cs := #[.string (⟨#[]⟩ : ByteArray), .string (⟨#[]⟩ : ByteArray)]) (t := 37) ?hr ?_; (case hd => rfl); (case hg => rfl); (case hr => first | (go_simp; done) | (go_simp; rfl)); intro gb212 hg w46 hbox hb; have HOX := aM (Kd.R_below (by (with_reducible repeat (first | apply rA | apply rN | apply rD)); exact HOX.out) hb); have n0_ := aM (Kd.R_below (Kd.R_elderB (by (with_reducible repeat (first | apply rA | apply rN | apply rD)); exact HO_204005.out) gb212 (Nat.le_of_eq hg.symm)) hb); have n1_ := aM (blk_below (g := gb186) (o := .cells #[.string x187000_1, .string x187001_1, .int .i64 x187002_1, .string x187003_1, .int .i64 x187004_1, .slice none 0 0] 30 (0, 0)) (by (with_reducible repeat (first | refine bN ?_ _ | refine bD ?_ | refine bA ?_ _)); exact BK186.out) hb); have n2_ := aM (blk_below (g := gb203) (o := .cells #[.string t194, .string t195, .int .i64 t196, .string t197, .int .i64 t198, .slice Ao44 x204005_1.length co44] 30 (0, 0)) (by (with_reducible repeat (first | refine bN ?_ _ | refine bD ?_ | refine bA ?_ _)); exact BK203.out) hb); have n3_ := aM (below_step (by repeat (first | (with_reducible first | exact HB.out | apply lA | apply lN | apply lD | refine below_set ?_ GE186.out | refine below_set ?_ GE203.out) | exact HB.out)) hb); have n4_ := aM (hbox); have n5_ := aM ((by rw [hg]; exact (below_size (by repeat (first | (with_reducible first | exact HB.out | apply lA | apply lN | apply lD | refine below_set ?_ GE186.out | refine below_set ?_ GE203.out) | exact HB.out))) : w.heap.size ≤ gb212)); have n6_ := n5_; have n7_ := aM ((by rw [hg]; exact Nat.ne_of_lt (blk_lt (by (with_reducible repeat (first | refine bN ?_ _ | refine bD ?_ | refine bA ?_ _)); exact BK186.out)) : gb186 ≠ gb212)); have n8_ := aM (n7_.out.symm); have n9_ := aM ((by rw [hg]; exact Nat.ne_of_lt (blk_lt (by (with_reducible repeat (first | refine bN ?_ _ | refine bD ?_ | refine bA ?_ _)); exact BK203.out)) : gb203 ≠ gb212)); have n10_ := aM (n9_.out.symm); clear HO_204005 BK186 BK203 HB; have HO_204005 := n0_; have BK186 := n1_; have BK203 := n2_; have HB := n3_; have BK212 := n4_; have GW212 := n5_; have GE212 := n6_; have NB186_212 := n7_; have NB212_186 := n8_; have NB203_212 := n9_; have NB212_203 := n10_; clear n0_ n1_ n2_ n3_ n4_ n5_ n6_ n7_ n8_ n9_ n10_; clear hb hbox hg; have hnb47 := NB212_186.out; have hnc47 := NB186_212.out; have hnb48 := NB212_203.out; have hnc48 := NB203_212.out; obtain ⟨hcz49_0, hcz49_1, hfz49_0, hfz49_1⟩ := cz2 BK212.out; obtain ⟨hcz50_0, hcz50_1, hcz50_2, hcz50_3, hcz50_4, hcz50_5, hfz50_0, hfz50_1, hfz50_2, hfz50_3, hfz50_4, hfz50_5⟩ := cz6 BK203.out) | ((with_reducible refine gate_builtin (b := .append) (xs := #[.tmp 65, .tmp 67]) rfl ?_); at_builtin; refine Kd.R_append k37 (w0 := w) w.heap.size rfl (.tmp 65) (.tmp 67) 28 37 (.agg #[(.string ⟨#[]⟩), (.string ⟨#[]⟩)]) 32 rfl Tryz.underlying28 info37 rfl (by decide) (by omega) (.slice Ao44 x204005_1.length co44) x204005_1 (⟨t209, t210⟩ : S37) [.string t209, .string t210] (fun k_ => k_ ≠ gb212) (fun _ => False) rfl (by first | (go_simp; done) | (go_simp; rfl)) ?aP (fun _ hk => hk.elim) ?aF ?aO ?aB ?aS ?aL ?_; (case aP => exact k37_mkM _ _ _ (⟨t209, t210⟩ : S37)); (case aB => exact (by repeat (first | (with_reducible first | exact HB.out | apply lA | apply lN | apply lD | refine below_set ?_ GE186.out | refine below_set ?_ GE203.out | refine below_set ?_ GE212.out) | exact HB.out))); (case aF => exact (fun k_ hk => Kd.freshB (g := gb212) (o := .cells #[.string t209, .string t210] 37 (0, 0)) (by (repeat (first | (with_reducible first | refine bN ?_ _ | refine bD ?_ | refine bA ?_ _ | apply p2_1 | apply p2_0))); exact BK212.out) k_ hk)); (case aO => exact (by (with_reducible repeat (first | apply rA | apply rN | apply rD)); exact Kd.R_mono (Kd.R_far (p := ⟨gb212, 1, none⟩) (Kd.R_far (p := ⟨gb212, 0, none⟩) (Kd.R_mono HO_204005.out (fun k_ hk => (⟨hk, hk.2⟩ : _ ∧ k_ ≠ gb212))) (fun _ hk => hk.2) (.string t209)) (fun _ hk => hk.2) (.string t210)) (fun _ hk => hk.1.2))); (case aS => exact (below_size (by repeat (first | (with_reducible first | exact HB.out | apply lA | apply lN | apply lD | refine below_set ?_ GE186.out | refine below_set ?_ GE203.out | refine below_set ?_ GE212.out) | exact HB.out)))); (case aL => have := LMc41.out; omega); intro v214 w51 ho hb hg hat; rw [← Ny213.out] at ho; have HOX : Aside0 (Kd.R Kd.string 9 w51 w.heap.size (fun _ => True) (.slice (some ad190) t187.length co21) t187) := ⟨Kd.R_over (by (with_reducible repeat (first | apply rA | apply rN | apply rD)); exact Kd.R_mono (Kd.R_far (p := ⟨gb212, 1, none⟩) (Kd.R_far (p := ⟨gb212, 0, none⟩) (Kd.R_types HOX.out BK212.out (by decide)) (fun _ hk => hk.2) (.string t209)) (fun _ hk => hk.2) (.string t210)) (fun _ _ => trivial)) (show Kd.R k37 37 _ w.heap.size (fun k_ => k_ ≠ gb212) (.slice Ao44 x204005_1.length co44) x204005_1 from (by (with_reducible repeat (first | apply rA | apply rN | apply rD)); exact Kd.R_mono (Kd.R_far (p := ⟨gb212, 1, none⟩) (Kd.R_far (p := ⟨gb212, 0, none⟩) (Kd.R_mono HO_204005.out (fun k_ hk => (⟨hk, hk.2⟩ : _ ∧ k_ ≠ gb212))) (fun _ hk => hk.2) (.string t209)) (fun _ hk => hk.2) (.string t210)) (fun _ hk => hk.1.2))) (by decide) hg⟩; have n0_ := aM (blk_grown (g := gb186) (o := .cells #[.string x187000_1, .string x187001_1, .int .i64 x187002_1, .string x187003_1, .int .i64 x187004_1, .slice none 0 0] 30 (0, 0)) (by (repeat (first | (with_reducible first | refine bN ?_ _ | refine bD ?_ | refine bA ?_ _) | refine blk_far ?_ NB186_212.out _)); exact BK186.out) hg (Kd.R_ne HO_204005.out BK186.out (by decide))); have n1_ := aM (blk_grown (g := gb203) (o := .cells #[.string t194, .string t195, .int .i64 t196, .string t197, .int .i64 t198, .slice Ao44 x204005_1.length co44] 30 (0, 0)) (by (repeat (first | (with_reducible first | refine bN ?_ _ | refine bD ?_ | refine bA ?_ _) | refine blk_far ?_ NB203_212.out _)); exact BK203.out) hg (Kd.R_ne HO_204005.out BK203.out (by decide))); have n2_ := aM (blk_grown (g := gb212) (o := .cells #[.string t209, .string t210] 37 (0, 0)) (by (repeat (first | (with_reducible first | refine bN ?_ _ | refine bD ?_ | refine bA ?_ _ | apply p2_1 | apply p2_0))); exact BK212.out) hg (Kd.R_away HO_204005.out (fun _ hk => hk.2))); have n3_ := aM (hb); have n4_ := aM (ho); clear BK186 BK203 BK212 HB HO_204005; have BK186 := n0_; have BK203 := n1_; have BK212 := n2_; have HB := n3_; have HO215 := n4_; clear n0_ n1_ n2_ n3_ n4_; clear ho hb hg hat; obtain ⟨Ao52, co52, eo52⟩ := Kd.R_slice HO215.out; subst eo52; obtain ⟨hcz53_0, hcz53_1, hcz53_2, hcz53_3, hcz53_4, hcz53_5, hfz53_0, hfz53_1, hfz53_2, hfz53_3, hfz53_4, hfz53_5⟩ := cz6 BK203.out))
              go_roundg k1
              case measure => have := HK1.out; omega
              case rel => exact ⟨(wrap64 (x46_1 + 1)), (x187000_1), (x187001_1), (x187002_1), (x187003_1), (x187004_1), (y213), (.slice Ao52 y213.length co52), (by first | rfl | (simp; done) | (simp [*]; done)), H', ⟨by have := HK1.out; omega⟩, ⟨by (with_reducible repeat (first | apply rA | apply rN | apply rD)); exact Kd.R_mono (Kd.R_far (p := ⟨gb203, 5, none⟩) (Kd.R_types HO215.out BK203.out (by decide)) (fun _ hk => hk.2) (.slice Ao52 y213.length co52)) (fun _ hk => trivial)⟩, ⟨by (repeat (first | (with_reducible first | refine bN ?_ _ | refine bD ?_ | refine bA ?_ _) | refine blk_far ?_ NB186_203.out _)); exact BK186.out⟩, ⟨by (with_reducible repeat (first | refine bN ?_ _ | refine bD ?_ | refine bA ?_ _)); refine blk_put (cs := #[.string t194, .string t195, .int .i64 t196, .string t197, .int .i64 t198, .slice Ao44 x204005_1.length co44]) ?_ 5 _ rfl; (with_reducible repeat (first | refine bN ?_ _ | refine bD ?_ | refine bA ?_ _)); exact BK203.out⟩, ⟨by (with_reducible repeat (first | apply rA | apply rN | apply rD)); exact Kd.R_mono (Kd.R_far (p := ⟨gb203, 5, none⟩) (Kd.R_types HOX.out BK203.out (by decide)) (fun _ hk => hk.2) (.slice Ao52 y213.length co52)) (fun _ _ => trivial)⟩, ⟨by repeat (first | (with_reducible first | exact HB.out | apply lA | apply lN | apply lD | refine below_set ?_ GE186.out | refine below_set ?_ GE203.out | refine below_set ?_ GE212.out) | exact HB.out)⟩⟩
             ·rw [if_neg c41] at H
              exact absurd H (by simp)
            ·rw [if_neg c40] at H
             have c40b0 : (t211 == 0) = false := beq_eq_false_iff_ne.mpr c40
             have c40b1 : (t211 != 0) = true := bne_iff_ne.mpr c40
             simp only [Option.some.injEq, Prod.mk.injEq] at H
             obtain ⟨rfl, rfl, rfl, rfl, rfl, rfl, rfl⟩ := H
             have p208 : 0 ≤ (x46_1 : Int) := of_decide_eq_true (by first | (with_reducible assumption) | assumption)
             have q208 : x46_1 < (y204.length : Int) := of_decide_eq_true (by first | (with_reducible assumption) | assumption)
             have hC_ := (Kd.R_reads' HOX.out).2.2
             have hroom_ := (Kd.R_reads' HOX.out).2.1
             have hr_ := Kd.C_drop (m := (1 : Int).toNat) (c := co21) hC_ (by have := KL30.out; omega) hroom_
             rw [show (t187).drop (1 : Int).toNat = y204 from Ny204.out.symm] at hr_
             replace hr_ : Kd.C Kd.string _ A30 y204.length y204 := (by rw [KA30.out]; exact hr_)
             obtain ⟨ad208, e208, hx208_0⟩ := Kd.at_string hr_ x46_1 p208 q208
             clear hC_ hroom_ hr_
             cases e208
             replace p208 := eq_true p208
             replace q208 := eq_true q208
             have hnb54 := NB203_186.out
             have hnc54 := NB186_203.out
             obtain ⟨hcz55_0, hcz55_1, hcz55_2, hcz55_3, hcz55_4, hcz55_5, hfz55_0, hfz55_1, hfz55_2, hfz55_3, hfz55_4, hfz55_5⟩ := cz6 BK203.out
             obtain ⟨Ao56, co56, eo56⟩ := Kd.R_slice HO_204005.out
             subst eo56
             go_wp2_with (first | ((with_reducible refine gate_callee (f := 28) rfl ?_); refine goesL_ (some 57) rfl rfl Tryz.func28 (by kernel_rfl) rfl #[.string (rdOf ByteArray.empty y204 x46_1)] rfl (by (try simp only [List.map_toArray, List.map_cons, List.map_nil]); first | done | rfl | (simp only [List.length_drop, List.length_take]; rfl)) ?_; (with_reducible refine (field_Parse.calls k1 (rdOf ByteArray.empty y204 x46_1) t209 t210 t211 _ A39.out).mono ?_); rintro e w57 ⟨rfl, hb⟩; refine ⟨_, rfl, ?_⟩; have n0_ := aM (Kd.R_below (by (with_reducible repeat (first | apply rA | apply rN | apply rD)); exact HO_204005.out) hb); have n1_ := aM (blk_below (g := gb186) (o := .cells #[.string x187000_1, .string x187001_1, .int .i64 x187002_1, .string x187003_1, .int .i64 x187004_1, .slice none 0 0] 30 (0, 0)) (by (with_reducible repeat (first | refine bN ?_ _ | refine bD ?_ | refine bA ?_ _)); exact BK186.out) hb); have n2_ := aM (blk_below (g := gb203) (o := .cells #[.string t194, .string t195, .int .i64 t196, .string t197, .int .i64 t198, .slice Ao56 x204005_1.length co56] 30 (0, 0)) (by (with_reducible repeat (first | refine bN ?_ _ | refine bD ?_ | refine bA ?_ _)); exact BK203.out) hb); have n3_ := aM (below_step (by repeat (first | (with_reducible first | exact HB.out | apply lA | apply lN | apply lD | refine below_set ?_ GE186.out | refine below_set ?_ GE203.out) | exact HB.out)) hb); clear HO_204005 BK186 BK203 HB; have HO_204005 := n0_; have BK186 := n1_; have BK203 := n2_; have HB := n3_; clear n0_ n1_ n2_ n3_; (try clear hb); (try clear hb2); (try clear hk); (try clear hi)) | ((with_reducible refine gate_dst (N := 13) rfl ?_); refine box_event ?hg (N := 13) ?hd (cs := #[.string (⟨#[]⟩ : ByteArray), .string (⟨#[]⟩ : ByteArray)]) (t := 37) ?hr ?_; (case hd => rfl); (case hg => rfl); (case hr => first | (go_simp; done) | (go_simp; rfl)); intro gb212 hg w58 hbox hb; have n0_ := aM (Kd.R_below (Kd.R_elderB (by (with_reducible repeat (first | apply rA | apply rN | apply rD)); exact HO_204005.out) gb212 (Nat.le_of_eq hg.symm)) hb); have n1_ := aM (blk_below (g := gb186) (o := .cells #[.string x187000_1, .string x187001_1, .int .i64 x187002_1, .string x187003_1, .int .i64 x187004_1, .slice none 0 0] 30 (0, 0)) (by (with_reducible repeat (first | refine bN ?_ _ | refine bD ?_ | refine bA ?_ _)); exact BK186.out) hb); have n2_ := aM (blk_below (g := gb203) (o := .cells #[.string t194, .string t195, .int .i64 t196, .string t197, .int .i64 t198, .slice Ao56 x204005_1.length co56] 30 (0, 0)) (by (with_reducible repeat (first | refine bN ?_ _ | refine bD ?_ | refine bA ?_ _)); exact BK203.out) hb); have n3_ := aM (below_step (by repeat (first | (with_reducible first | exact HB.out | apply lA | apply lN | apply lD | refine below_set ?_ GE186.out | refine below_set ?_ GE203.out) | exact HB.out)) hb); have n4_ := aM (hbox); have n5_ := aM ((by rw [hg]; exact (below_size (by repeat (first | (with_reducible first | exact HB.out | apply lA | apply lN | apply lD | refine below_set ?_ GE186.out | refine below_set ?_ GE203.out) | exact HB.out))) : w.heap.size ≤ gb212)); have n6_ := n5_; have n7_ := aM ((by rw [hg]; exact Nat.ne_of_lt (blk_lt (by (with_reducible repeat (first | refine bN ?_ _ | refine bD ?_ | refine bA ?_ _)); exact BK186.out)) : gb186 ≠ gb212)); have n8_ := aM (n7_.out.symm); have n9_ := aM ((by rw [hg]; exact Nat.ne_of_lt (blk_lt (by (with_reducible repeat (first | refine bN ?_ _ | refine bD ?_ | refine bA ?_ _)); exact BK203.out)) : gb203 ≠ gb212)); have n10_ := aM (n9_.out.symm); clear HO_204005 BK186 BK203 HB; have HO_204005 := n0_; have BK186 := n1_; have BK203 := n2_; have HB := n3_; have BK212 := n4_; have GW212 := n5_; have GE212 := n6_; have NB186_212 := n7_; have NB212_186 := n8_; have NB203_212 := n9_; have NB212_203 := n10_; clear n0_ n1_ n2_ n3_ n4_ n5_ n6_ n7_ n8_ n9_ n10_; clear hb hbox hg; have hnb59 := NB212_186.out; have hnc59 := NB186_212.out; have hnb60 := NB212_203.out; have hnc60 := NB203_212.out; obtain ⟨hcz61_0, hcz61_1, hfz61_0, hfz61_1⟩ := cz2 BK212.out; obtain ⟨hcz62_0, hcz62_1, hcz62_2, hcz62_3, hcz62_4, hcz62_5, hfz62_0, hfz62_1, hfz62_2, hfz62_3, hfz62_4, hfz62_5⟩ := cz6 BK186.out))
             refine bodyPost_ret (results_ct rfl _ _ gb186 30 #[.string (⟨#[]⟩ : ByteArray), .string (⟨#[]⟩ : ByteArray), .int .i64 0, .string (⟨#[]⟩ : ByteArray), .int .i64 0, .slice none 0 0] (0, 0) _ rfl (by (repeat (first | (with_reducible first | refine bN ?_ _ | refine bD ?_ | refine bA ?_ _ | apply p6_5 | apply p6_4 | apply p6_3 | apply p6_2 | apply p6_1 | apply p6_0) | refine blk_far ?_ NB186_212.out _)); exact BK186.out) Tryz.underlying30 rfl (by kernel_rfl)) rfl ?_
             exact ⟨_, by first | rfl | (simp [errW_none, errW_some] <;> rfl) | (simp [*, errW_none, errW_some] <;> rfl), by first | exact Kd.R_nil _ _ _ _ _ | exact Kd.N_nil _ _ _ _ _ | exact Kd.V_nil _ _ _ _ _ | exact Kd.Q_nil _ _ _ _ _ | exact Kd.S_nil _ _ _ _ _, by repeat (first | (with_reducible first | exact HB.out | apply lA | apply lN | apply lD | refine below_set ?_ GE186.out | refine below_set ?_ GE203.out | refine below_set ?_ GE212.out) | exact HB.out)⟩
          ·rw [if_neg c33] at H
           exact absurd H (by simp)
         ·rw [if_neg c32] at H
          exact absurd H (by simp)
        ·rw [if_neg c31] at H
         have c31b0 : decide (x46_1 < (y204.length : Int)) = false := decide_eq_false c31
         clear c31
         simp only [Option.some.injEq, Prod.mk.injEq] at H
         obtain ⟨rfl, rfl, rfl, rfl, rfl, rfl, rfl⟩ := H
         have hnb63 := NB203_186.out
         have hnc63 := NB186_203.out
         obtain ⟨hcz64_0, hcz64_1, hcz64_2, hcz64_3, hcz64_4, hcz64_5, hfz64_0, hfz64_1, hfz64_2, hfz64_3, hfz64_4, hfz64_5⟩ := cz6 BK203.out
         obtain ⟨hcz65_0, hcz65_1, hcz65_2, hcz65_3, hcz65_4, hcz65_5, hfz65_0, hfz65_1, hfz65_2, hfz65_3, hfz65_4, hfz65_5⟩ := cz6 BK186.out
         obtain ⟨Ao66, co66, eo66⟩ := Kd.R_slice HO_204005.out
         subst eo66
         go_wp2
         refine bodyPost_ret (results_ct rfl _ _ gb186 30 #[.string t194, .string t195, .int .i64 t196, .string t197, .int .i64 t198, .slice Ao66 x204005_1.length co66] (0, 0) _ rfl (by (repeat (first | (with_reducible first | refine bN ?_ _ | refine bD ?_ | refine bA ?_ _ | apply p6_5 | apply p6_4 | apply p6_3 | apply p6_2 | apply p6_1 | apply p6_0))); exact BK186.out) Tryz.underlying30 rfl (by kernel_rfl)) rfl ?_
         exact ⟨_, by first | rfl | (simp [errW_none, errW_some] <;> rfl) | (simp [*, errW_none, errW_some] <;> rfl), by (with_reducible repeat (first | apply rA | apply rN | apply rD)); exact Kd.R_mono (Kd.R_far (p := ⟨gb186, 5, none⟩) (Kd.R_far (p := ⟨gb186, 4, none⟩) (Kd.R_far (p := ⟨gb186, 3, none⟩) (Kd.R_far (p := ⟨gb186, 2, none⟩) (Kd.R_far (p := ⟨gb186, 1, none⟩) (Kd.R_far (p := ⟨gb186, 0, none⟩) (Kd.R_types HO_204005.out BK186.out (by decide)) (fun _ hk => hk.2) (.string t194)) (fun _ hk => hk.2) (.string t195)) (fun _ hk => hk.2) (.int .i64 t196)) (fun _ hk => hk.2) (.string t197)) (fun _ hk => hk.2) (.int .i64 t198)) (fun _ hk => hk.2) (.slice Ao66 x204005_1.length co66)) (fun _ hk => trivial), by repeat (first | (with_reducible first | exact HB.out | apply lA | apply lN | apply lD | refine below_set ?_ GE186.out | refine below_set ?_ GE203.out) | exact HB.out)⟩
     ·rw [if_neg c18] at H
      exact absurd H (by simp)
    ·rw [if_neg c17] at H
     have c17b0 : (t202 == 0) = false := beq_eq_false_iff_ne.mpr c17
     have c17b1 : (t202 != 0) = true := bne_iff_ne.mpr c17
     simp only [Option.some.injEq, Prod.mk.injEq] at H
     obtain ⟨rfl, rfl, rfl, rfl, rfl, rfl, rfl⟩ := H
     go_enter Tryz.func15, Tryz.ntmps15
     go_wp2_with (first | ((with_reducible refine gate_dst (N := 4) rfl ?_); refine box_event ?hg (N := 4) ?hd (cs := #[.string (⟨#[]⟩ : ByteArray), .string (⟨#[]⟩ : ByteArray), .int .i64 0, .string (⟨#[]⟩ : ByteArray), .int .i64 0, .slice none 0 0]) (t := 30) ?hr ?_; (case hd => rfl); (case hg => rfl); (case hr => first | (go_simp; done) | (go_simp; rfl)); intro gb186 hg w67 hbox hb; have n0_ := aM (below_step (by repeat (first | (with_reducible first | exact HB.out | apply lA | apply lN | apply lD) | exact HB.out)) hb); have n1_ := aM (hbox); have n2_ := aM ((by rw [hg]; exact (below_size (by repeat (first | (with_reducible first | exact HB.out | apply lA | apply lN | apply lD) | exact HB.out))) : w.heap.size ≤ gb186)); have n3_ := n2_; clear HB; have HB := n0_; have BK186 := n1_; have GW186 := n2_; have GE186 := n3_; clear n0_ n1_ n2_ n3_; clear hb hbox hg) | ((with_reducible refine gate_callee (f := 24) rfl ?_); refine goesL_ (some 20) rfl rfl Tryz.func24 (by kernel_rfl) rfl #[.string a0, .string (⟨#[13, 10]⟩ : ByteArray)] rfl (by (try simp only [List.map_toArray, List.map_cons, List.map_nil]); first | done | rfl | (simp only [List.length_drop, List.length_take]; rfl)) ?_; (with_reducible refine (strings_Split.calls a0 (⟨#[13, 10]⟩ : ByteArray) t187 _ ?side1 A6.out).mono ?_); (case side1 => exact glob_below HG_.out (by repeat (first | (with_reducible first | exact HB.out | apply lA | apply lN | apply lD | refine below_set ?_ GE186.out) | exact HB.out))); rintro e w68 ⟨v188, rfl, ho0, hb⟩; refine ⟨_, rfl, ?_⟩; have n0_ := aM (Kd.R_lower ho0 (below_size (by repeat (first | (with_reducible first | exact HB.out | apply lA | apply lN | apply lD | refine below_set ?_ GE186.out) | exact HB.out)))); have n1_ := aM (blk_below (g := gb186) (o := .cells #[.string (⟨#[]⟩ : ByteArray), .string (⟨#[]⟩ : ByteArray), .int .i64 0, .string (⟨#[]⟩ : ByteArray), .int .i64 0, .slice none 0 0] 30 (0, 0)) (by (with_reducible repeat (first | refine bN ?_ _ | refine bD ?_ | refine bA ?_ _)); exact BK186.out) hb); have n2_ := aM (below_step (by repeat (first | (with_reducible first | exact HB.out | apply lA | apply lN | apply lD | refine below_set ?_ GE186.out) | exact HB.out)) hb); clear BK186 HB; have HO189 := n0_; have BK186 := n1_; have HB := n2_; clear n0_ n1_ n2_; (try clear hb); (try clear hb2); (try clear hk); (try clear hi); (try clear ho0); obtain ⟨Ao69, co69, eo69⟩ := Kd.R_slice HO189.out; subst eo69; have p190 : 0 ≤ (0 : Int) := (by omega); have q190 : 0 < (t187.length : Int) := of_decide_eq_true (by first | (with_reducible assumption) | assumption); obtain ⟨ad190, e190, hx190_0⟩ := Kd.at_string (Kd.R_reads' HO189.out).2.2 0 p190 q190; cases e190; have qi190 : (0 < t187.length) = True := eq_true (by omega); (try rw [show ((0 : Int)).toNat = 0 from rfl] at hx190_0); (try rw [Addr.add_zero'] at hx190_0); replace p190 := eq_true p190; replace q190 := eq_true q190) | ((with_reducible refine gate_callee (f := 25) rfl ?_); refine goesL_ (some 24) rfl rfl Tryz.func25 (by kernel_rfl) rfl #[.string (rdOf ByteArray.empty t187 0), .string (⟨#[32]⟩ : ByteArray), .int .i64 3] rfl (by (try simp only [List.map_toArray, List.map_cons, List.map_nil]); first | done | rfl | (simp only [List.length_drop, List.length_take]; rfl)) ?_; (with_reducible refine (strings_SplitN.calls (rdOf ByteArray.empty t187 0) (⟨#[32]⟩ : ByteArray) 3 t191 _ ?side1 A8.out).mono ?_); (case side1 => exact glob_below HG_.out (by repeat (first | (with_reducible first | exact HB.out | apply lA | apply lN | apply lD | refine below_set ?_ GE186.out) | exact HB.out))); rintro e w70 ⟨v192, rfl, ho0, hb⟩; refine ⟨_, rfl, ?_⟩; have n0_ := aM (Kd.R_elder' (by (with_reducible repeat (first | apply rA | apply rN | apply rD)); exact HO189.out) (Kd.R_base ho0) hb); have n1_ := aM (Kd.R_lower (Kd.R_new' ho0 (Kd.R_lt (by (with_reducible repeat (first | apply rA | apply rN | apply rD)); exact HO189.out))) (below_size (by repeat (first | (with_reducible first | exact HB.out | apply lA | apply lN | apply lD | refine below_set ?_ GE186.out) | exact HB.out)))); have n2_ := aM (blk_below (g := gb186) (o := .cells #[.string (⟨#[]⟩ : ByteArray), .string (⟨#[]⟩ : ByteArray), .int .i64 0, .string (⟨#[]⟩ : ByteArray), .int .i64 0, .slice none 0 0] 30 (0, 0)) (by (with_reducible repeat (first | refine bN ?_ _ | refine bD ?_ | refine bA ?_ _)); exact BK186.out) hb); have n3_ := aM (below_step (by repeat (first | (with_reducible first | exact HB.out | apply lA | apply lN | apply lD | refine below_set ?_ GE186.out) | exact HB.out)) hb); clear HO189 BK186 HB; have HO189 := n0_; have HO193 := n1_; have BK186 := n2_; have HB := n3_; clear n0_ n1_ n2_ n3_; (try clear hb); (try clear hb2); (try clear hk); (try clear hi); (try clear ho0); obtain ⟨Ao71, co71, eo71⟩ := Kd.R_slice HO193.out; subst eo71; have hmm_ := @run_makeMap Tryz.prog; have hp1_ := pick_put1 w70; have hp2_ := pick_put2 w70; have hl_ := pick_look w70 a1) | ((with_reducible refine gate_dyn (t := 34) rfl ?_); refine goesD_ 34 (some 36) rfl rfl (f := pickN a1) #[.slice Ao71 t191.length co71] (pick_enter a1) rfl rfl (by (try simp only [List.map_toArray, List.map_cons, List.map_nil]); first | done | rfl | (simp only [List.length_drop, List.length_take]; rfl)) ?_; (with_reducible refine (head_pick.calls a1 k _ _ t191 t194 t195 t196 t197 t198 t199 t202 _ ?side1 ?side2 A16.out).mono ?_); (case side1 => repeat (first | exact (Kd.R_reads' HO193.out).2.2 | (with_reducible refine Kd.C_alloc ?_ _) | (with_reducible refine Kd.C_drewN ?_ _) | (with_reducible refine Kd.C_drew ?_))); (case side2 => exact (Kd.R_reads' HO193.out).2.1); rintro e w72 ⟨v200, rfl, ho0, hb⟩; refine ⟨_, rfl, ?_⟩; have n0_ := aM (Kd.R_below (by (with_reducible repeat (first | apply rA | apply rN | apply rD)); exact HO189.out) hb); have n1_ := aM (Kd.R_below (by (with_reducible repeat (first | apply rA | apply rN | apply rD)); exact HO193.out) hb); have n2_ := aM (Kd.R_lower ho0 (below_size (by repeat (first | (with_reducible first | exact HB.out | apply lA | apply lN | apply lD | refine below_set ?_ GE186.out) | exact HB.out)))); have n3_ := aM (blk_below (g := gb186) (o := .cells #[.string (⟨#[]⟩ : ByteArray), .string (⟨#[]⟩ : ByteArray), .int .i64 0, .string (⟨#[]⟩ : ByteArray), .int .i64 0, .slice none 0 0] 30 (0, 0)) (by (with_reducible repeat (first | refine bN ?_ _ | refine bD ?_ | refine bA ?_ _)); exact BK186.out) hb); have n4_ := aM (below_step (by repeat (first | (with_reducible first | exact HB.out | apply lA | apply lN | apply lD | refine below_set ?_ GE186.out) | exact HB.out)) hb); clear HO189 HO193 BK186 HB; have HO189 := n0_; have HO193 := n1_; have HO201 := n2_; have BK186 := n3_; have HB := n4_; clear n0_ n1_ n2_ n3_ n4_; (try clear hb); (try clear hb2); (try clear hk); (try clear hi); (try clear ho0)) | ((with_reducible refine gate_dst (N := 9) rfl ?_); refine box_event ?hg (N := 9) ?hd (cs := #[.string (⟨#[]⟩ : ByteArray), .string (⟨#[]⟩ : ByteArray), .int .i64 0, .string (⟨#[]⟩ : ByteArray), .int .i64 0, .slice none 0 0]) (t := 30) ?hr ?_; (case hd => rfl); (case hg => rfl); (case hr => first | (go_simp; done) | (go_simp; rfl)); intro gb203 hg w73 hbox hb; have n0_ := aM (Kd.R_below (by (with_reducible repeat (first | apply rA | apply rN | apply rD)); exact HO189.out) hb); have n1_ := aM (Kd.R_below (by (with_reducible repeat (first | apply rA | apply rN | apply rD)); exact HO193.out) hb); have n2_ := aM (Kd.R_below (by (with_reducible repeat (first | apply rA | apply rN | apply rD)); exact HO201.out) hb); have n3_ := aM (blk_below (g := gb186) (o := .cells #[.string (⟨#[]⟩ : ByteArray), .string (⟨#[]⟩ : ByteArray), .int .i64 0, .string (⟨#[]⟩ : ByteArray), .int .i64 0, .slice none 0 0] 30 (0, 0)) (by (with_reducible repeat (first | refine bN ?_ _ | refine bD ?_ | refine bA ?_ _)); exact BK186.out) hb); have n4_ := aM (below_step (by repeat (first | (with_reducible first | exact HB.out | apply lA | apply lN | apply lD | refine below_set ?_ GE186.out) | exact HB.out)) hb); have n5_ := aM (hbox); have n6_ := aM ((by rw [hg]; exact (below_size (by repeat (first | (with_reducible first | exact HB.out | apply lA | apply lN | apply lD | refine below_set ?_ GE186.out) | exact HB.out))) : w.heap.size ≤ gb203)); have n7_ := n6_; have n8_ := aM ((by rw [hg]; exact Nat.ne_of_lt (blk_lt (by (with_reducible repeat (first | refine bN ?_ _ | refine bD ?_ | refine bA ?_ _)); exact BK186.out)) : gb186 ≠ gb203)); have n9_ := aM (n8_.out.symm); clear HO189 HO193 HO201 BK186 HB; have HO189 := n0_; have HO193 := n1_; have HO201 := n2_; have BK186 := n3_; have HB := n4_; have BK203 := n5_; have GW203 := n6_; have GE203 := n7_; have NB186_203 := n8_; have NB203_186 := n9_; clear n0_ n1_ n2_ n3_ n4_ n5_ n6_ n7_ n8_ n9_; clear hb hbox hg; have hnb74 := NB203_186.out; have hnc74 := NB186_203.out; obtain ⟨hcz75_0, hcz75_1, hcz75_2, hcz75_3, hcz75_4, hcz75_5, hfz75_0, hfz75_1, hfz75_2, hfz75_3, hfz75_4, hfz75_5⟩ := cz6 BK203.out; obtain ⟨Ao76, co76, eo76⟩ := Kd.R_slice HO201.out; subst eo76; obtain ⟨hcz77_0, hcz77_1, hcz77_2, hcz77_3, hcz77_4, hcz77_5, hfz77_0, hfz77_1, hfz77_2, hfz77_3, hfz77_4, hfz77_5⟩ := cz6 BK186.out))
     refine bodyPost_ret (results_ct rfl _ _ gb186 30 #[.string (⟨#[]⟩ : ByteArray), .string (⟨#[]⟩ : ByteArray), .int .i64 0, .string (⟨#[]⟩ : ByteArray), .int .i64 0, .slice none 0 0] (0, 0) _ rfl (by (repeat (first | (with_reducible first | refine bN ?_ _ | refine bD ?_ | refine bA ?_ _ | apply p6_5 | apply p6_4 | apply p6_3 | apply p6_2 | apply p6_1 | apply p6_0) | refine blk_far ?_ NB186_203.out _)); exact BK186.out) Tryz.underlying30 rfl (by kernel_rfl)) rfl ?_
     exact ⟨_, by first | rfl | (simp [errW_none, errW_some] <;> rfl) | (simp [*, errW_none, errW_some] <;> rfl), by first | exact Kd.R_nil _ _ _ _ _ | exact Kd.N_nil _ _ _ _ _ | exact Kd.V_nil _ _ _ _ _ | exact Kd.Q_nil _ _ _ _ _ | exact Kd.S_nil _ _ _ _ _, by repeat (first | (with_reducible first | exact HB.out | apply lA | apply lN | apply lD | refine below_set ?_ GE186.out | refine below_set ?_ GE203.out) | exact HB.out)⟩
  ·rw [if_neg c7] at H
   exact absurd H (by simp)

end Go.Proofs.YtemhokkfefidlaaGreatDoor.P
