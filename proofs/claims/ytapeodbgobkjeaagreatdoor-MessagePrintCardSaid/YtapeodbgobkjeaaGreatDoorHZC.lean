/- Several parts together: The table of first lines that head.Parse makes and looks up at once: what it holds, and the function that is found in it; The contract of head.Right in the printed form: may a head be; The contract of lockagelaw06.Made in the printed form: a head by numbers. -/
import Derived.Test.YtapeodbgobkjeaaGreatDoorPx6
import Derived.Test.YtapeodbgobkjeaaGreatDoorPx7
import Derived.Carry
import Derived.MapKept
import Derived.Test.YtapeodbgobkjeaaGreatDoorHZB
import Derived.Test.YtapeodbgobkjeaaGreatDoorPx4
import Derived.Test.YtapeodbgobkjeaaGreatDoorPx8
import Derived.Deep.RegionWith
set_option linter.unusedVariables false
set_option linter.unusedSimpArgs false
namespace Go.Proofs.YtapeodbgobkjeaaGreatDoor.H
open Go.RowKit Go.Shelf Go Go.MapKept
theorem run_put_last {P : Program} {mty kt et : TypeId} {d : TypeDesc} (hm : P.underlying mty = some (.map kt et)) (hd : P.underlying kt = some d) (w : World) (es : Array MapEntry) (clock : Nat) (key value : Value) (hk : IsKey d key) (hf : Instr.findNow d key es.toList 0 = some none) :
  (Instr.mapUpdate mty (.map (some w.heap.size)) key value).run P (w.alloc (.map es clock)) = .ok () (w.alloc (.map (es.push { key := key, val := value, born := clock }) (clock + 1))) := by
 have hb : (w.alloc (.map es clock)).heap[w.heap.size]? = some (.map es clock) := heap_alloc_new w _
 have hs : ({ w.alloc (.map es clock) with heap := (w.alloc (.map es clock)).heap.setIfInBounds w.heap.size (.map (es.push { key := key, val := value, born := clock }) (clock + 1)) } : World) = w.alloc (.map (es.push { key := key, val := value, born := clock }) (clock + 1)) := by
  have : (w.alloc (.map es clock)).heap.setIfInBounds w.heap.size (.map (es.push { key := key, val := value, born := clock }) (clock + 1)) = (w.alloc (.map (es.push { key := key, val := value, born := clock }) (clock + 1))).heap := by
   show (w.heap.push (.map es clock)).setIfInBounds w.heap.size _ = w.heap.push _
   apply Array.ext'
   simp
  rw [this]
  rfl
 simp [Instr.mapUpdate, run_underlying hm, MapKept.run_getObj_map hb, MapKept.run_checkKey hd hk, MapKept.run_findKey hd hf, MapKept.run_setObj_map _ hb, Result.andThen]
 exact hs
theorem run_look {P : Program} {mty kt et : TypeId} {d : TypeDesc} {w : World} {r clock : Nat} {es : Array MapEntry} (hm : P.underlying mty = some (.map kt et)) (hd : P.underlying kt = some d) (hb : w.heap[r]? = some (.map es clock)) (key v : Value) (i : Nat) (hk : IsKey d key) (hf : Instr.findNow d key es.toList 0 = some (some (i, v))) :
  (Instr.lookup mty (.map (some r)) key false).run P w = .ok v w := by
 simp [Instr.lookup, run_underlying hm, MapKept.run_getObj_map hb, MapKept.run_checkKey hd hk, MapKept.run_findKey hd hf, Result.andThen]
end Go.Proofs.YtapeodbgobkjeaaGreatDoor.H
namespace Go.Proofs.YtapeodbgobkjeaaGreatDoor.P
open Go.RowKit Go.Shelf Go.Lib Go.Proofs.YtapeodbgobkjeaaGreatDoorW.PrintWords Go.Proofs.YtapeodbgobkjeaaGreatDoorW.PrintLast Go.Proofs.YtapeodbgobkjeaaGreatDoorW.PrintMore
def pickN : Bool → Nat
 | false => 134
 | true => 135
def pickM : Array MapEntry := #[{ key := .bool false, val := .func (.func 134) #[] #[], born := 0 }, { key := .bool true, val := .func (.func 135) #[] #[], born := 1 }]
theorem pick_put1 (w : World) : (Instr.mapUpdate 157 (.map (some w.heap.size)) (.bool false) (.func (.func 134) #[] #[])).run Tryz.prog (w.alloc (.map #[] 0)) = .ok () (w.alloc (.map #[{ key := .bool false, val := .func (.func 134) #[] #[], born := 0 }] 1)) :=
 H.run_put_last Tryz.underlying157 Tryz.underlying4 w #[] 0 (.bool false) (.func (.func 134) #[] #[]) trivial rfl
theorem pick_put2 (w : World) : (Instr.mapUpdate 157 (.map (some w.heap.size)) (.bool true) (.func (.func 135) #[] #[])).run Tryz.prog (w.alloc (.map #[{ key := .bool false, val := .func (.func 134) #[] #[], born := 0 }] 1)) = .ok () (w.alloc (.map pickM 2)) :=
 H.run_put_last Tryz.underlying157 Tryz.underlying4 w #[{ key := .bool false, val := .func (.func 134) #[] #[], born := 0 }] 1 (.bool true) (.func (.func 135) #[] #[]) trivial rfl
theorem pick_look (w : World) (a1 : Bool) : (Instr.lookup 157 (.map (some w.heap.size)) (.bool a1) false).run Tryz.prog (w.alloc (.map pickM 2)) = .ok (.func (.func (pickN a1)) #[] #[]) (w.alloc (.map pickM 2)) := by
 cases a1 with
 | false => exact H.run_look Tryz.underlying157 Tryz.underlying4 (heap_alloc_new w _) (.bool false) _ 0 trivial rfl
 | true => exact H.run_look Tryz.underlying157 Tryz.underlying4 (heap_alloc_new w _) (.bool true) _ 1 trivial rfl
theorem pick_enter (a1 : Bool) (args : Array Value) (w : World) : (callFunc (pickN a1) args).run Tryz.prog w = .ok (.enter (pickN a1) args) w := by
 cases a1 with
 | false => exact enters_ Tryz.func134 (by kernel_rfl) rfl args w
 | true => exact enters_ Tryz.func135 (by kernel_rfl) rfl args w
def head_pick.f (k : Nat) (a1 : Bool) (l0 : List ByteArray) : Option (ByteArray × ByteArray × Int × ByteArray × Int × (List (S40)) × Int) := if a1 = true then head_answer.f k l0 else head_request.f k l0
theorem head_pick.mono (a1 : Bool) (l0 : List ByteArray) (k : Nat) : LeO (head_pick.f k a1 l0) (head_pick.f (k + 1) a1 l0) := by
 unfold head_pick.f
 exact .ite (head_answer.mono _ _) (head_request.mono _ _)
theorem head_pick.calls (a1 : Bool) (k : Nat) (A0 : Option Addr) (c0 : Nat) (l0 : List ByteArray) (r1 : ByteArray) (r2 : ByteArray) (r3 : Int) (r4 : ByteArray) (r5 : Int) (r6 : List (S40)) (r7 : Int) (w : World) (hr0 : Kd.C Kd.string w A0 l0.length l0) (hc0 : l0.length ≤ c0) (h : head_pick.f k a1 l0 = some (r1, r2, r3, r4, r5, r6, r7)) :
  Calls Tryz.prog (pickN a1) #[.slice A0 l0.length c0] w fun e w' => ∃ v5_ : Value, e = .returned (.tuple #[.agg #[.string r1, .string r2, .int .i64 r3, .string r4, .int .i64 r5, v5_], .int .i64 r7]) ∧ Kd.R k40 40 w' w.heap.size (fun _ => True) v5_ r6 ∧ Below w.heap.size w w' := by
 unfold head_pick.f at h
 cases a1 with
 | false =>
  rw [if_neg (by decide)] at h
  exact head_request.calls k A0 c0 l0 r1 r2 r3 r4 r5 r6 r7 w hr0 hc0 h
 | true =>
  rw [if_pos rfl] at h
  exact head_answer.calls k A0 c0 l0 r1 r2 r3 r4 r5 r6 r7 w hr0 hc0 h
section
variable {P : Program} {ops : Array Oper} {Q : Exit → Act → World → Prop}
theorem gate_dyn {t : Tmp} {o : Oper} {rest : List Oper} {a : Act} {W : World} {ags : Array Operand} {ts : Array TypeId} (_ho : o.op = .call { callee := .value (.tmp t), args := ags, argTypes := ts }) (h : wpList P ops Q (o :: rest) a W) : wpList P ops Q (o :: rest) a W := h
theorem goesD_ {rest : List Oper} {oi : Oper} {a : Act} {w : World} (t : Tmp) (N : Option Tmp) (hd : oi.dst = N) (hg : oi.guard = none) {f : FuncId} {ags : Array Operand} {ts : Array TypeId} (args : Array Value) (he : ∀ args w, (callFunc f args).run P w = .ok (.enter f args) w)
  (hop : oi.op = .call { callee := .value (.tmp t), args := ags, argTypes := ts }) (hv : a.eval (.tmp t) = .func (.func f) #[] #[]) (hargs : ags.map a.eval = args)
  (h : Calls P f args w fun e w' => ∃ v, e = .returned v ∧ wpList P ops Q rest (a.put N v) w') : wpList P ops Q (oi :: rest) a w := by
 refine wpList_plain hg fun K hK => ?_
 have he := he args w
 have hrun : (execOp a.eval oi).run P w = .ok (.enter f args) w := by
  unfold execOp
  simp [hop, resolve, Deferred.ofValue, invoke, hv, hargs, he]
 unfold Oper.wp
 rw [hrun, Oper.upon_enter]
 refine h.mono fun e w'' hh => ?_
 obtain ⟨v, rfl, hk⟩ := hh
 subst hd
 exact hK _ _ hk
end
end Go.Proofs.YtapeodbgobkjeaaGreatDoor.P
namespace Go.Proofs.YtapeodbgobkjeaaGreatDoor.P
open Go.RowKit Go.Shelf Go.Lib Go.Proofs.YtapeodbgobkjeaaGreatDoorW.PrintWords Go.Proofs.YtapeodbgobkjeaaGreatDoorW.PrintLast Go.Proofs.YtapeodbgobkjeaaGreatDoorW.PrintMore
open H (ret_bool ret_int)
def head_Right.f (k : Nat) (a0_0 : ByteArray) (a0_1 : ByteArray) (a0_2 : Int) (a0_3 : ByteArray) (a0_4 : Int) (l0_5 : List S40) (a1 : Bool) : Option Bool :=
 if smallF l0_5 = true then
  if a0_4 < 0 then some false else if a0_4 > 1 then some false else if (l0_5.length : Int) > 20 then some false else if l0_5.any badF = true then some false else
  if a1 = true then
   if a0_0.size + a0_1.size ≤ 9223372036854775807 then
    if (a0_0 ++ a0_1).toList = ([] : List UInt8) then
     (head_status.f a0_2).bind fun s => if s = true then head_reason.f k a0_3 else some false
    else some false
   else none
  else
   (field_Name.f a0_0).bind fun n => if n = true then
    (head_target.f k a0_1).bind fun t => if t = true then if a0_2 = 0 then some (a0_3.toList == ([] : List UInt8)) else some false else some false
   else some false
 else none
theorem head_Right.mono : ∀ a0_0 a0_1 a0_2 a0_3 a0_4 l0_5 a1 k, LeO (head_Right.f k a0_0 a0_1 a0_2 a0_3 a0_4 l0_5 a1) (head_Right.f (k + 1) a0_0 a0_1 a0_2 a0_3 a0_4 l0_5 a1) := by
 intro a0_0 a0_1 a0_2 a0_3 a0_4 l0_5 a1 k
 unfold head_Right.f
 refine .ite (.ite (.refl _) (.ite (.refl _) (.ite (.refl _) (.ite (.refl _) (.ite ?_ ?_))))) (.refl _)
 ·exact .ite (.ite (.bind (.refl _) fun s => .ite (head_reason.mono _ _) (.refl _)) (.refl _)) (.refl _)
 ·exact .bind (.refl _) fun n => .ite (.bind (head_target.mono _ _) fun t => .refl _) (.refl _)
set_option maxHeartbeats 3200000 in
set_option maxRecDepth 100000 in
theorem head_Right.calls (k : Nat) (a0_0 : ByteArray) (a0_1 : ByteArray) (a0_2 : Int) (a0_3 : ByteArray) (a0_4 : Int) (A0_5 : Option Addr) (c0_5 : Nat) (l0_5 : List S40) (a1 : Bool) (r : Bool) (w : World) (hr0_5 : Kd.C k40 w A0_5 l0_5.length l0_5) (hc0_5 : l0_5.length ≤ c0_5) (h : head_Right.f k a0_0 a0_1 a0_2 a0_3 a0_4 l0_5 a1 = some r) :
  Calls Tryz.prog 43 #[.agg #[.string a0_0, .string a0_1, .int .i64 a0_2, .string a0_3, .int .i64 a0_4, .slice A0_5 l0_5.length c0_5], .bool a1] w fun e w' => e = .returned (.bool r) ∧ Below w.heap.size w w' := by
 unfold head_Right.f at h
 split at h
 case isFalse => cases h
 case isTrue hs =>
 have hn : l0_5.length ≤ 9223372036854775807 := hr0_5.2.1
 have HB0 := Lib.hid (below_alloc (Below.refl w.heap.size w) (.cells #[.string a0_0, .string a0_1, .int .i64 a0_2, .string a0_3, .int .i64 a0_4, .slice A0_5 l0_5.length c0_5] 29))
 have K := Lib.hid (anyodd_any l0_5 A0_5 c0_5 (w.alloc (.cells #[.string a0_0, .string a0_1, .int .i64 a0_2, .string a0_3, .int .i64 a0_4, .slice A0_5 l0_5.length c0_5] 29)) hs hn (Kd.C_below hr0_5 HB0.out))
 have HCe := Lib.hid (show ∀ w', Below (w.heap.size + 1) (w.alloc (.cells #[.string a0_0, .string a0_1, .int .i64 a0_2, .string a0_3, .int .i64 a0_4, .slice A0_5 l0_5.length c0_5] 29)) w' → w'.cell? ⟨w.heap.size, 0, none⟩ = some (.string a0_0) ∧ w'.cell? ⟨w.heap.size, 1, none⟩ = some (.string a0_1) ∧ w'.cell? ⟨w.heap.size, 2, none⟩ = some (.int .i64 a0_2) ∧ w'.cell? ⟨w.heap.size, 3, none⟩ = some (.string a0_3) from fun w' hb => by
    have g := heap_alloc_new w (.cells #[.string a0_0, .string a0_1, .int .i64 a0_2, .string a0_3, .int .i64 a0_4, .slice A0_5 l0_5.length c0_5] 29)
    refine ⟨(hb.cell (p := ⟨w.heap.size, 0, none⟩) (by simp)).trans ?_, (hb.cell (p := ⟨w.heap.size, 1, none⟩) (by simp)).trans ?_, (hb.cell (p := ⟨w.heap.size, 2, none⟩) (by simp)).trans ?_, (hb.cell (p := ⟨w.heap.size, 3, none⟩) (by simp)).trans ?_⟩
    ·unfold World.cell?; rw [g]; rfl
    ·unfold World.cell?; rw [g]; rfl
    ·unfold World.cell?; rw [g]; rfl
    ·unfold World.cell?; rw [g]; rfl)
 clear hr0_5 hs
 split at h
 case isTrue c1 =>
  injection h with h; subst h
  have d1 : decide (a0_4 < 0) = true := decide_eq_true c1
  clear K c1
  go_enter Tryz.func43, Tryz.ntmps43
  go_wp2_with fail
  go_ret
  exact ⟨rfl, HB0.out⟩
 case isFalse c1 =>
 have d1 : decide (a0_4 < 0) = false := decide_eq_false c1
 split at h
 case isTrue c2 =>
  injection h with h; subst h
  have d2 : decide (a0_4 > 1) = true := decide_eq_true c2
  clear K c1 c2
  go_enter Tryz.func43, Tryz.ntmps43
  go_wp2_with fail
  go_ret
  exact ⟨rfl, HB0.out⟩
 case isFalse c2 =>
 have d2 : decide (a0_4 > 1) = false := decide_eq_false c2
 split at h
 case isTrue c3 =>
  injection h with h; subst h
  have d3 : decide ((l0_5.length : Int) > 20) = true := decide_eq_true c3
  clear K c1 c2 c3
  go_enter Tryz.func43, Tryz.ntmps43
  go_wp2_with fail
  go_ret
  exact ⟨rfl, HB0.out⟩
 case isFalse c3 =>
 have d3 : decide ((l0_5.length : Int) > 20) = false := decide_eq_false c3
 clear c1 c2 c3
 split at h
 case isTrue c4 =>
  injection h with h; subst h
  rw [c4] at K
  clear c4
  go_enter Tryz.func43, Tryz.ntmps43
  go_wp2_with fail
  refine K.out.mono ?_; rintro e w' ⟨rfl, hB2⟩
  go_wp2_with fail
  go_ret
  exact ⟨rfl, HB0.out.trans (hB2.mono (by simp))⟩
 case isFalse c4 =>
 have c4' : l0_5.any badF = false := by simpa using c4
 rw [c4'] at K
 clear c4 c4'
 split at h
 case isTrue c5 =>
  subst c5
  split at h
  case isFalse => cases h
  case isTrue hs2 =>
  split at h
  case isFalse c6 =>
   injection h with h; subst h
   have d6 : ((a0_0 ++ a0_1).toList == ([] : List UInt8)) = false := by simpa using c6
   clear c6
   go_enter Tryz.func43, Tryz.ntmps43
   go_wp2_with fail
   refine K.out.mono ?_; rintro e w' ⟨rfl, hB2⟩
   obtain ⟨g0, g1, g2, g3⟩ := HCe.out w' (by simpa using hB2)
   have HB2 := Lib.hid hB2
   clear hB2
   go_wp2_with fail
   go_ret
   exact ⟨rfl, HB0.out.trans (HB2.out.mono (by simp))⟩
  case isTrue c6 =>
   have d6 : ((a0_0 ++ a0_1).toList == ([] : List UInt8)) = true := by simpa using c6
   clear c6
   obtain ⟨s, hs, h⟩ := Option.bind_eq_some_iff.1 h
   have KS := fun W => Lib.hid (head_status.calls a0_2 s W hs)
   clear hs
   cases s with
   | false =>
    rw [if_neg (by decide)] at h
    injection h with h; subst h
    go_enter Tryz.func43, Tryz.ntmps43
    go_wp2_with fail
    refine K.out.mono ?_; rintro e w' ⟨rfl, hB2⟩
    obtain ⟨g0, g1, g2, g3⟩ := HCe.out w' (by simpa using hB2)
    have HB2 := Lib.hid hB2
    clear hB2
    go_wp2_with fail
    refine (KS _).out.mono ?_; rintro e w' ⟨rfl, ⟨m, rfl⟩⟩
    go_wp2_with fail
    go_ret
    exact ⟨rfl, (by have Z := HB0.out.trans (HB2.out.mono (by simp)); (repeat (first | exact Z | apply pw_below_drewN | apply below_drew1)))⟩
   | true =>
    rw [if_pos rfl] at h
    have KR := fun W => Lib.hid (head_reason.calls k a0_3 r W h)
    clear h
    go_enter Tryz.func43, Tryz.ntmps43
    go_wp2_with fail
    refine K.out.mono ?_; rintro e w' ⟨rfl, hB2⟩
    obtain ⟨g0, g1, g2, g3⟩ := HCe.out w' (by simpa using hB2)
    have HB2 := Lib.hid hB2
    clear hB2
    go_wp2_with fail
    refine (KS _).out.mono ?_; rintro e w' ⟨rfl, ⟨m, rfl⟩⟩
    go_wp2_with fail
    refine (KR _).out.mono ?_; rintro e w' ⟨rfl, ⟨m', rfl⟩⟩
    go_wp2_with fail
    go_ret
    exact ⟨ret_bool (by simp), (by have Z := HB0.out.trans (HB2.out.mono (by simp)); (repeat (first | exact Z | apply pw_below_drewN | apply below_drew1)))⟩
 case isFalse c5 =>
  have c5' : a1 = false := by simpa using c5
  subst c5'
  obtain ⟨n, hn2, h⟩ := Option.bind_eq_some_iff.1 h
  have KN := fun W => Lib.hid (field_Name.calls a0_0 n W hn2)
  clear hn2 c5
  cases n with
  | false =>
   rw [if_neg (by decide)] at h
   injection h with h; subst h
   go_enter Tryz.func43, Tryz.ntmps43
   go_wp2_with fail
   refine K.out.mono ?_; rintro e w' ⟨rfl, hB2⟩
   obtain ⟨g0, g1, g2, g3⟩ := HCe.out w' (by simpa using hB2)
   have HB2 := Lib.hid hB2
   clear hB2
   go_wp2_with fail
   refine (KN _).out.mono ?_; rintro e w' ⟨rfl, ⟨m, rfl⟩⟩
   go_wp2_with fail
   go_ret
   exact ⟨rfl, (by have Z := HB0.out.trans (HB2.out.mono (by simp)); (repeat (first | exact Z | apply pw_below_drewN | apply below_drew1)))⟩
  | true =>
   rw [if_pos rfl] at h
   obtain ⟨t, ht, h⟩ := Option.bind_eq_some_iff.1 h
   have KT := fun W => Lib.hid (head_target.calls k a0_1 t W ht)
   clear ht
   cases t with
   | false =>
    rw [if_neg (by decide)] at h
    injection h with h; subst h
    go_enter Tryz.func43, Tryz.ntmps43
    go_wp2_with fail
    refine K.out.mono ?_; rintro e w' ⟨rfl, hB2⟩
    obtain ⟨g0, g1, g2, g3⟩ := HCe.out w' (by simpa using hB2)
    have HB2 := Lib.hid hB2
    clear hB2
    go_wp2_with fail
    refine (KN _).out.mono ?_; rintro e w' ⟨rfl, ⟨m, rfl⟩⟩
    go_wp2_with fail
    refine (KT _).out.mono ?_; rintro e w' ⟨rfl, ⟨m', rfl⟩⟩
    go_wp2_with fail
    go_ret
    exact ⟨rfl, (by have Z := HB0.out.trans (HB2.out.mono (by simp)); (repeat (first | exact Z | apply pw_below_drewN | apply below_drew1)))⟩
   | true =>
    rw [if_pos rfl] at h
    by_cases c7 : a0_2 = 0
    ·rw [if_pos c7] at h
     injection h with h
     subst h
     subst c7
     have HC8 := Lib.hid (rfl : (a0_3.toList == ([] : List UInt8)) = (a0_3.toList == ([] : List UInt8)))
     go_enter Tryz.func43, Tryz.ntmps43
     go_wp2_with fail
     refine K.out.mono ?_; rintro e w' ⟨rfl, hB2⟩
     obtain ⟨g0, g1, g2, g3⟩ := HCe.out w' (by simpa using hB2)
     have HB2 := Lib.hid hB2
     clear hB2
     go_wp2_with fail
     refine (KN _).out.mono ?_; rintro e w' ⟨rfl, ⟨m, rfl⟩⟩
     go_wp2_with fail
     refine (KT _).out.mono ?_; rintro e w' ⟨rfl, ⟨m', rfl⟩⟩
     go_wp2_with fail
     all_goals go_ret
     all_goals exact ⟨ret_bool (by first | (simp; done) | (simp [*]; done) | (simp_all; done)), (by have Z := HB0.out.trans (HB2.out.mono (by simp)); (repeat (first | exact Z | apply pw_below_drewN | apply below_drew1)))⟩
    ·rw [if_neg c7] at h
     injection h with h
     subst h
     have d7 : (a0_2 == 0) = false := by simpa using c7
     go_enter Tryz.func43, Tryz.ntmps43
     go_wp2_with fail
     refine K.out.mono ?_; rintro e w' ⟨rfl, hB2⟩
     obtain ⟨g0, g1, g2, g3⟩ := HCe.out w' (by simpa using hB2)
     have HB2 := Lib.hid hB2
     clear hB2
     go_wp2_with fail
     refine (KN _).out.mono ?_; rintro e w' ⟨rfl, ⟨m, rfl⟩⟩
     go_wp2_with fail
     refine (KT _).out.mono ?_; rintro e w' ⟨rfl, ⟨m', rfl⟩⟩
     go_wp2_with fail
     all_goals go_ret
     all_goals exact ⟨ret_bool (by first | (simp; done) | (simp [*]; done) | (simp_all; done)), (by have Z := HB0.out.trans (HB2.out.mono (by simp)); (repeat (first | exact Z | apply pw_below_drewN | apply below_drew1)))⟩
end Go.Proofs.YtapeodbgobkjeaaGreatDoor.P
namespace Go.Proofs.YtapeodbgobkjeaaGreatDoor.P
open Go.RowKit Go.Shelf Go.Lib Go.Proofs.YtapeodbgobkjeaaGreatDoorW.PrintWords Go.Proofs.YtapeodbgobkjeaaGreatDoorW.PrintLast Go.Proofs.YtapeodbgobkjeaaGreatDoorW.PrintMore
def lockagelaw06_Made.f (k : Nat) (l0 : List Int) (a1 : Bool) : Option (ByteArray × ByteArray × Int × ByteArray × Int × List S40) :=
 (lockagelaw06_Maker_Head.f k l0 0 a1).bind fun x => some (x.1, x.2.1, x.2.2.1, x.2.2.2.1, x.2.2.2.2.1, x.2.2.2.2.2.1)
theorem lockagelaw06_Made.mono : ∀ l0 a1 k, LeO (lockagelaw06_Made.f k l0 a1) (lockagelaw06_Made.f (k + 1) l0 a1) := by
 intro l0 a1 k
 unfold lockagelaw06_Made.f
 exact .bind (lockagelaw06_Maker_Head.mono _ _ _ _) fun _ => .refl _
set_option maxHeartbeats 1600000 in
set_option maxRecDepth 100000 in
theorem lockagelaw06_Made.calls (k : Nat) (A0 : Option Addr) (c0 : Nat) (l0 : List Int) (a1 : Bool) (r1 : ByteArray) (r2 : ByteArray) (r3 : Int) (r4 : ByteArray) (r5 : Int) (r6 : List S40) (w : World) (hr0 : Kd.C (Kd.int .u8) w A0 l0.length l0) (hc0 : l0.length ≤ c0) (h : lockagelaw06_Made.f k l0 a1 = some (r1, r2, r3, r4, r5, r6)) :
  Calls Tryz.prog 15 #[.slice A0 l0.length c0, .bool a1] w fun e w' => ∃ v5_ : Value, e = .returned (.agg #[.string r1, .string r2, .int .i64 r3, .string r4, .int .i64 r5, v5_]) ∧ Kd.R k40 40 w' w.heap.size (fun _ => True) v5_ r6 ∧ Below w.heap.size w w' := by
 unfold lockagelaw06_Made.f at h
 generalize hg : lockagelaw06_Maker_Head.f k l0 0 a1 = g at h
 obtain ⟨⟨x1, x2, x3, x4, x5, x6, x7⟩, hx, h⟩ := Option.bind_eq_some_iff.1 h
 subst hx
 have hx := hg
 clear hg
 have h2 : (x1, x2, x3, x4, x5, x6) = (r1, r2, r3, r4, r5, r6) := Option.some.inj h
 clear h
 cases h2
 have HX := Lib.hid hx
 have HR := Lib.hid hr0
 clear hx hr0
 go_enter Tryz.func15, Tryz.ntmps15
 go_wp2_with (first
  | ((with_reducible refine gate_dst (N := 4) rfl ?_); refine box_event ?hg (N := 4) ?hd (cs := #[.string (⟨#[]⟩ : ByteArray), .string (⟨#[]⟩ : ByteArray), .int .i64 0, .string (⟨#[]⟩ : ByteArray), .int .i64 0, .slice none 0 0]) (t := 29) ?hr ?_; (case hd => rfl); (case hg => rfl); (case hr => first | (go_simp; done) | (go_simp; rfl)); intro g hg w2 hbox hb; have BK := Lib.hid hbox; have HB2 := Lib.hid hb; have HG := Lib.hid hg; clear hbox hb hg)
  | ((with_reducible refine gate_dst (N := 8) rfl ?_); refine box_event ?hg (N := 8) ?hd (cs := #[.slice A0 l0.length c0, .int .i64 0]) (t := 67) ?hr ?_; (case hd => rfl); (case hg => rfl); (case hr => first | (go_simp; done) | (go_simp; rfl)); intro g3 hg w3 hbox hb; have BK3 := Lib.hid hbox; have HB3 := Lib.hid hb; have HG3 := Lib.hid hg; clear hbox hb hg))
 have hlt : g < w2.heap.size := blk_lt BK.out
 have BK4 := Lib.hid ((HB3.out.block g hlt).trans BK.out)
 have HBw := Lib.hid (HB2.out.trans (HB3.out.mono HB2.out.size))
 have hge : w.heap.size ≤ g3 := by rw [HG3.out]; exact HB2.out.size
 have K := Lib.hid (lockagelaw06_Maker_Head.calls k g3 l0 0 a1 _ _ _ _ _ _ _ w w3 ⟨A0, c0, BK3.out, hge, HR.out⟩ HBw.out HX.out)
 refine K.out.mono ?_; rintro e w4 ⟨v, rfl, ho, hi, hb, hk⟩
 have hne : g ≠ g3 := by rw [HG3.out]; omega
 have BK5 := Lib.hid (show w4.heap[g]? = _ from (hk.2 g (blk_lt BK4.out) hne (by simp)).trans BK4.out)
 have HO := Lib.hid (Kd.R_types ho BK5.out (by decide))
 have HBz := Lib.hid hb
 have hge0 : w.heap.size ≤ g := by rw [HG.out]; exact Nat.le_refl _
 have hle3 : w.heap.size ≤ w3.heap.size := HBw.out.size
 have hcz0 := (blk_cell BK5.out 0).trans rfl
 have hcz1 := (blk_cell BK5.out 1).trans rfl
 have hcz2 := (blk_cell BK5.out 2).trans rfl
 have hcz3 := (blk_cell BK5.out 3).trans rfl
 have hcz4 := (blk_cell BK5.out 4).trans rfl
 have hcz5 := (blk_cell BK5.out 5).trans rfl
 have hfz0 := blk_frozen BK5.out 0
 have hfz1 := blk_frozen BK5.out 1
 have hfz2 := blk_frozen BK5.out 2
 have hfz3 := blk_frozen BK5.out 3
 have hfz4 := blk_frozen BK5.out 4
 have hfz5 := blk_frozen BK5.out 5
 obtain ⟨Ao, co, eo⟩ := Kd.R_slice HO.out
 subst eo
 clear ho hi hb hk
 go_wp2_with fail
 refine bodyPost_ret (results_cell_row rfl _ _ g 29 #[.string r1, .string r2, .int .i64 r3, .string r4, .int .i64 r5, .slice Ao r6.length co] (0, 0) _ rfl (by (with_reducible repeat (first | refine blk_drewN ?_ _ | refine blk_drew ?_ | refine blk_alloc ?_ _)); refine blk_put (cs := #[.string r1, .string r2, .int .i64 r3, .string r4, .int .i64 r5, .slice none 0 0]) ?_ 5 _ rfl; (with_reducible repeat (first | refine blk_drewN ?_ _ | refine blk_drew ?_ | refine blk_alloc ?_ _)); refine blk_put (cs := #[.string r1, .string r2, .int .i64 r3, .string r4, .int .i64 0, .slice none 0 0]) ?_ 4 _ rfl; (with_reducible repeat (first | refine blk_drewN ?_ _ | refine blk_drew ?_ | refine blk_alloc ?_ _)); refine blk_put (cs := #[.string r1, .string r2, .int .i64 r3, .string (⟨#[]⟩ : ByteArray), .int .i64 0, .slice none 0 0]) ?_ 3 _ rfl; (with_reducible repeat (first | refine blk_drewN ?_ _ | refine blk_drew ?_ | refine blk_alloc ?_ _)); refine blk_put (cs := #[.string r1, .string r2, .int .i64 0, .string (⟨#[]⟩ : ByteArray), .int .i64 0, .slice none 0 0]) ?_ 2 _ rfl; (with_reducible repeat (first | refine blk_drewN ?_ _ | refine blk_drew ?_ | refine blk_alloc ?_ _)); refine blk_put (cs := #[.string r1, .string (⟨#[]⟩ : ByteArray), .int .i64 0, .string (⟨#[]⟩ : ByteArray), .int .i64 0, .slice none 0 0]) ?_ 1 _ rfl; (with_reducible repeat (first | refine blk_drewN ?_ _ | refine blk_drew ?_ | refine blk_alloc ?_ _)); refine blk_put (cs := #[.string (⟨#[]⟩ : ByteArray), .string (⟨#[]⟩ : ByteArray), .int .i64 0, .string (⟨#[]⟩ : ByteArray), .int .i64 0, .slice none 0 0]) ?_ 0 _ rfl; (with_reducible repeat (first | refine blk_drewN ?_ _ | refine blk_drew ?_ | refine blk_alloc ?_ _)); exact BK5.out) Tryz.underlying29 rfl (by kernel_rfl)) rfl ?_
 refine ⟨_, rfl, ?_, ?_⟩
 ·(with_reducible repeat (first | apply Kd.R_alloc | apply Kd.R_drewN | apply Kd.R_drew))
  exact Kd.R_lower (Kd.R_mono (Kd.R_far (p := ⟨g, 5, none⟩) (Kd.R_far (p := ⟨g, 4, none⟩) (Kd.R_far (p := ⟨g, 3, none⟩) (Kd.R_far (p := ⟨g, 2, none⟩) (Kd.R_far (p := ⟨g, 1, none⟩) (Kd.R_far (p := ⟨g, 0, none⟩) HO.out (fun _ hk => hk.2) (.string r1)) (fun _ hk => hk.2) (.string r2)) (fun _ hk => hk.2) (.int .i64 r3)) (fun _ hk => hk.2) (.string r4)) (fun _ hk => hk.2) (.int .i64 r5)) (fun _ hk => hk.2) (.slice Ao r6.length co)) (fun _ _ => trivial)) hle3
 ·repeat (with_reducible first | exact HBz.out | apply pw_below_drewN | apply below_drew1 | refine below_set ?_ hge0)
end Go.Proofs.YtapeodbgobkjeaaGreatDoor.P
