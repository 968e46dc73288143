/- The contract of head.Right in the printed form: may a head be. -/
import Derived.Test.YtemhokkfefidlaaGreatDoorHZB
import Derived.Test.YtemhokkfefidlaaGreatDoorPx4
import Derived.Test.YtemhokkfefidlaaGreatDoorPx2
set_option linter.unusedVariables false
set_option linter.unusedSimpArgs false
namespace Go.Proofs.YtemhokkfefidlaaGreatDoor.P
open Go.RowKit Go.Shelf Go.Lib Go.Proofs.YtemhokkfefidlaaGreatDoorW.PrintWords Go.Proofs.YtemhokkfefidlaaGreatDoorW.PrintLast Go.Proofs.YtemhokkfefidlaaGreatDoorW.PrintMore
open H (ret_bool ret_int)
def head_Right.f (k : Nat) (a0_0 : ByteArray) (a0_1 : ByteArray) (a0_2 : Int) (a0_3 : ByteArray) (a0_4 : Int) (l0_5 : List S37) (a1 : Bool) : Option Bool :=
 if smallF l0_5 = true then
  if a0_4 < 0 then some false else if a0_4 > 1 then some false else if (l0_5.length : Int) > 20 then some false else if l0_5.any badF = true then some false else
  if a1 = true then
   if a0_0.size + a0_1.size ≤ 9223372036854775807 then
    if (a0_0 ++ a0_1).toList = ([] : List UInt8) then
     (head_status.f a0_2).bind fun s => if s = true then head_reason.f k a0_3 else some false
    else some false
   else none
  else
   (field_Name.f a0_0).bind fun n => if n = true then
    (head_target.f k a0_1).bind fun t => if t = true then if a0_2 = 0 then some (a0_3.toList == ([] : List UInt8)) else some false else some false
   else some false
 else none
theorem head_Right.mono : ∀ a0_0 a0_1 a0_2 a0_3 a0_4 l0_5 a1 k, LeO (head_Right.f k a0_0 a0_1 a0_2 a0_3 a0_4 l0_5 a1) (head_Right.f (k + 1) a0_0 a0_1 a0_2 a0_3 a0_4 l0_5 a1) := by
 intro a0_0 a0_1 a0_2 a0_3 a0_4 l0_5 a1 k
 unfold head_Right.f
 refine .ite (.ite (.refl _) (.ite (.refl _) (.ite (.refl _) (.ite (.refl _) (.ite ?_ ?_))))) (.refl _)
 ·exact .ite (.ite (.bind (.refl _) fun s => .ite (head_reason.mono _ _) (.refl _)) (.refl _)) (.refl _)
 ·exact .bind (.refl _) fun n => .ite (.bind (head_target.mono _ _) fun t => .refl _) (.refl _)
set_option maxHeartbeats 3200000 in
set_option maxRecDepth 100000 in
theorem head_Right.calls (k : Nat) (a0_0 : ByteArray) (a0_1 : ByteArray) (a0_2 : Int) (a0_3 : ByteArray) (a0_4 : Int) (A0_5 : Option Addr) (c0_5 : Nat) (l0_5 : List S37) (a1 : Bool) (r : Bool) (w : World) (hr0_5 : Kd.C k37 w A0_5 l0_5.length l0_5) (hc0_5 : l0_5.length ≤ c0_5) (h : head_Right.f k a0_0 a0_1 a0_2 a0_3 a0_4 l0_5 a1 = some r) :
  Calls Tryz.prog 17 #[.agg #[.string a0_0, .string a0_1, .int .i64 a0_2, .string a0_3, .int .i64 a0_4, .slice A0_5 l0_5.length c0_5], .bool a1] w fun e w' => e = .returned (.bool r) ∧ Below w.heap.size w w' := by
 unfold head_Right.f at h
 split at h
 case isFalse => cases h
 case isTrue hs =>
 have hn : l0_5.length ≤ 9223372036854775807 := hr0_5.2.1
 have HB0 := Lib.hid (below_alloc (Below.refl w.heap.size w) (.cells #[.string a0_0, .string a0_1, .int .i64 a0_2, .string a0_3, .int .i64 a0_4, .slice A0_5 l0_5.length c0_5] 30))
 have K := Lib.hid (anyodd_any l0_5 A0_5 c0_5 (w.alloc (.cells #[.string a0_0, .string a0_1, .int .i64 a0_2, .string a0_3, .int .i64 a0_4, .slice A0_5 l0_5.length c0_5] 30)) hs hn (Kd.C_below hr0_5 HB0.out))
 have HCe := Lib.hid (show ∀ w', Below (w.heap.size + 1) (w.alloc (.cells #[.string a0_0, .string a0_1, .int .i64 a0_2, .string a0_3, .int .i64 a0_4, .slice A0_5 l0_5.length c0_5] 30)) w' → w'.cell? ⟨w.heap.size, 0, none⟩ = some (.string a0_0) ∧ w'.cell? ⟨w.heap.size, 1, none⟩ = some (.string a0_1) ∧ w'.cell? ⟨w.heap.size, 2, none⟩ = some (.int .i64 a0_2) ∧ w'.cell? ⟨w.heap.size, 3, none⟩ = some (.string a0_3) from fun w' hb => by
    have g := heap_alloc_new w (.cells #[.string a0_0, .string a0_1, .int .i64 a0_2, .string a0_3, .int .i64 a0_4, .slice A0_5 l0_5.length c0_5] 30)
    refine ⟨(hb.cell (p := ⟨w.heap.size, 0, none⟩) (by simp)).trans ?_, (hb.cell (p := ⟨w.heap.size, 1, none⟩) (by simp)).trans ?_, (hb.cell (p := ⟨w.heap.size, 2, none⟩) (by simp)).trans ?_, (hb.cell (p := ⟨w.heap.size, 3, none⟩) (by simp)).trans ?_⟩
    ·unfold World.cell?; rw [g]; rfl
    ·unfold World.cell?; rw [g]; rfl
    ·unfold World.cell?; rw [g]; rfl
    ·unfold World.cell?; rw [g]; rfl)
 clear hr0_5 hs
 split at h
 case isTrue c1 =>
  injection h with h; subst h
  have d1 : decide (a0_4 < 0) = true := decide_eq_true c1
  clear K c1
  go_enter Tryz.func17, Tryz.ntmps17
  go_wp2_with fail
  go_ret
  exact ⟨rfl, HB0.out⟩
 case isFalse c1 =>
 have d1 : decide (a0_4 < 0) = false := decide_eq_false c1
 split at h
 case isTrue c2 =>
  injection h with h; subst h
  have d2 : decide (a0_4 > 1) = true := decide_eq_true c2
  clear K c1 c2
  go_enter Tryz.func17, Tryz.ntmps17
  go_wp2_with fail
  go_ret
  exact ⟨rfl, HB0.out⟩
 case isFalse c2 =>
 have d2 : decide (a0_4 > 1) = false := decide_eq_false c2
 split at h
 case isTrue c3 =>
  injection h with h; subst h
  have d3 : decide ((l0_5.length : Int) > 20) = true := decide_eq_true c3
  clear K c1 c2 c3
  go_enter Tryz.func17, Tryz.ntmps17
  go_wp2_with fail
  go_ret
  exact ⟨rfl, HB0.out⟩
 case isFalse c3 =>
 have d3 : decide ((l0_5.length : Int) > 20) = false := decide_eq_false c3
 clear c1 c2 c3
 split at h
 case isTrue c4 =>
  injection h with h; subst h
  rw [c4] at K
  clear c4
  go_enter Tryz.func17, Tryz.ntmps17
  go_wp2_with fail
  refine K.out.mono ?_; rintro e w' ⟨rfl, hB2⟩
  go_wp2_with fail
  go_ret
  exact ⟨rfl, HB0.out.trans (hB2.mono (by simp))⟩
 case isFalse c4 =>
 have c4' : l0_5.any badF = false := by simpa using c4
 rw [c4'] at K
 clear c4 c4'
 split at h
 case isTrue c5 =>
  subst c5
  split at h
  case isFalse => cases h
  case isTrue hs2 =>
  split at h
  case isFalse c6 =>
   injection h with h; subst h
   have d6 : ((a0_0 ++ a0_1).toList == ([] : List UInt8)) = false := by simpa using c6
   clear c6
   go_enter Tryz.func17, Tryz.ntmps17
   go_wp2_with fail
   refine K.out.mono ?_; rintro e w' ⟨rfl, hB2⟩
   obtain ⟨g0, g1, g2, g3⟩ := HCe.out w' (by simpa using hB2)
   have HB2 := Lib.hid hB2
   clear hB2
   go_wp2_with fail
   go_ret
   exact ⟨rfl, HB0.out.trans (HB2.out.mono (by simp))⟩
  case isTrue c6 =>
   have d6 : ((a0_0 ++ a0_1).toList == ([] : List UInt8)) = true := by simpa using c6
   clear c6
   obtain ⟨s, hs, h⟩ := Option.bind_eq_some_iff.1 h
   have KS := fun W => Lib.hid (head_status.calls a0_2 s W hs)
   clear hs
   cases s with
   | false =>
    rw [if_neg (by decide)] at h
    injection h with h; subst h
    go_enter Tryz.func17, Tryz.ntmps17
    go_wp2_with fail
    refine K.out.mono ?_; rintro e w' ⟨rfl, hB2⟩
    obtain ⟨g0, g1, g2, g3⟩ := HCe.out w' (by simpa using hB2)
    have HB2 := Lib.hid hB2
    clear hB2
    go_wp2_with fail
    refine (KS _).out.mono ?_; rintro e w' ⟨rfl, ⟨m, rfl⟩⟩
    go_wp2_with fail
    go_ret
    exact ⟨rfl, (by have Z := HB0.out.trans (HB2.out.mono (by simp)); (repeat (first | exact Z | apply pw_below_drewN | apply below_drew1)))⟩
   | true =>
    rw [if_pos rfl] at h
    have KR := fun W => Lib.hid (head_reason.calls k a0_3 r W h)
    clear h
    go_enter Tryz.func17, Tryz.ntmps17
    go_wp2_with fail
    refine K.out.mono ?_; rintro e w' ⟨rfl, hB2⟩
    obtain ⟨g0, g1, g2, g3⟩ := HCe.out w' (by simpa using hB2)
    have HB2 := Lib.hid hB2
    clear hB2
    go_wp2_with fail
    refine (KS _).out.mono ?_; rintro e w' ⟨rfl, ⟨m, rfl⟩⟩
    go_wp2_with fail
    refine (KR _).out.mono ?_; rintro e w' ⟨rfl, ⟨m', rfl⟩⟩
    go_wp2_with fail
    go_ret
    exact ⟨ret_bool (by simp), (by have Z := HB0.out.trans (HB2.out.mono (by simp)); (repeat (first | exact Z | apply pw_below_drewN | apply below_drew1)))⟩
 case isFalse c5 =>
  have c5' : a1 = false := by simpa using c5
  subst c5'
  obtain ⟨n, hn2, h⟩ := Option.bind_eq_some_iff.1 h
  have KN := fun W => Lib.hid (field_Name.calls a0_0 n W hn2)
  clear hn2 c5
  cases n with
  | false =>
   rw [if_neg (by decide)] at h
   injection h with h; subst h
   go_enter Tryz.func17, Tryz.ntmps17
   go_wp2_with fail
   refine K.out.mono ?_; rintro e w' ⟨rfl, hB2⟩
   obtain ⟨g0, g1, g2, g3⟩ := HCe.out w' (by simpa using hB2)
   have HB2 := Lib.hid hB2
   clear hB2
   go_wp2_with fail
   refine (KN _).out.mono ?_; rintro e w' ⟨rfl, ⟨m, rfl⟩⟩
   go_wp2_with fail
   go_ret
   exact ⟨rfl, (by have Z := HB0.out.trans (HB2.out.mono (by simp)); (repeat (first | exact Z | apply pw_below_drewN | apply below_drew1)))⟩
  | true =>
   rw [if_pos rfl] at h
   obtain ⟨t, ht, h⟩ := Option.bind_eq_some_iff.1 h
   have KT := fun W => Lib.hid (head_target.calls k a0_1 t W ht)
   clear ht
   cases t with
   | false =>
    rw [if_neg (by decide)] at h
    injection h with h; subst h
    go_enter Tryz.func17, Tryz.ntmps17
    go_wp2_with fail
    refine K.out.mono ?_; rintro e w' ⟨rfl, hB2⟩
    obtain ⟨g0, g1, g2, g3⟩ := HCe.out w' (by simpa using hB2)
    have HB2 := Lib.hid hB2
    clear hB2
    go_wp2_with fail
    refine (KN _).out.mono ?_; rintro e w' ⟨rfl, ⟨m, rfl⟩⟩
    go_wp2_with fail
    refine (KT _).out.mono ?_; rintro e w' ⟨rfl, ⟨m', rfl⟩⟩
    go_wp2_with fail
    go_ret
    exact ⟨rfl, (by have Z := HB0.out.trans (HB2.out.mono (by simp)); (repeat (first | exact Z | apply pw_below_drewN | apply below_drew1)))⟩
   | true =>
    rw [if_pos rfl] at h
    by_cases c7 : a0_2 = 0
    ·rw [if_pos c7] at h
     injection h with h
     subst h
     subst c7
     have HC8 := Lib.hid (rfl : (a0_3.toList == ([] : List UInt8)) = (a0_3.toList == ([] : List UInt8)))
     go_enter Tryz.func17, Tryz.ntmps17
     go_wp2_with fail
     refine K.out.mono ?_; rintro e w' ⟨rfl, hB2⟩
     obtain ⟨g0, g1, g2, g3⟩ := HCe.out w' (by simpa using hB2)
     have HB2 := Lib.hid hB2
     clear hB2
     go_wp2_with fail
     refine (KN _).out.mono ?_; rintro e w' ⟨rfl, ⟨m, rfl⟩⟩
     go_wp2_with fail
     refine (KT _).out.mono ?_; rintro e w' ⟨rfl, ⟨m', rfl⟩⟩
     go_wp2_with fail
     all_goals go_ret
     all_goals exact ⟨ret_bool (by first | (simp; done) | (simp [*]; done) | (simp_all; done)), (by have Z := HB0.out.trans (HB2.out.mono (by simp)); (repeat (first | exact Z | apply pw_below_drewN | apply below_drew1)))⟩
    ·rw [if_neg c7] at h
     injection h with h
     subst h
     have d7 : (a0_2 == 0) = false := by simpa using c7
     go_enter Tryz.func17, Tryz.ntmps17
     go_wp2_with fail
     refine K.out.mono ?_; rintro e w' ⟨rfl, hB2⟩
     obtain ⟨g0, g1, g2, g3⟩ := HCe.out w' (by simpa using hB2)
     have HB2 := Lib.hid hB2
     clear hB2
     go_wp2_with fail
     refine (KN _).out.mono ?_; rintro e w' ⟨rfl, ⟨m, rfl⟩⟩
     go_wp2_with fail
     refine (KT _).out.mono ?_; rintro e w' ⟨rfl, ⟨m', rfl⟩⟩
     go_wp2_with fail
     all_goals go_ret
     all_goals exact ⟨ret_bool (by first | (simp; done) | (simp [*]; done) | (simp_all; done)), (by have Z := HB0.out.trans (HB2.out.mono (by simp)); (repeat (first | exact Z | apply pw_below_drewN | apply below_drew1)))⟩
end Go.Proofs.YtemhokkfefidlaaGreatDoor.P
