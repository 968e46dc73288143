/- Printed by a program of the session out of the translation: plain Lean functions, each with the contract that the Go function computes it. -/
import Derived.Test.YtljppmpigijgaaaDoorPx8a
import Derived.Test.YtljppmpigijgaaaDoorPx8b
import Derived.Test.YtljppmpigijgaaaDoorPx8
import Derived.Test.YtljppmpigijgaaaDoorHY
import Derived.Test.YtljppmpigijgaaaDoorPx0
import Derived.Test.YtljppmpigijgaaaDoorPx6
import Derived.Test.YtljppmpigijgaaaDoorPx7
import Derived.Test.YtljppmpigijgaaaDoorHK
namespace Go.Proofs.YtljppmpigijgaaaDoor.P
open Go.RowKit Go.Proofs.YtljppmpigijgaaaDoorW.PrintWords Go.Proofs.YtljppmpigijgaaaDoorW.PrintLast Go.Proofs.YtljppmpigijgaaaDoorW.PrintMore
attribute [local go_sem] max2_int min2_int max_two min_two max_three min_three max_four min_four   -- for this text's walks alone
set_option linter.unusedVariables false
set_option linter.unusedSimpArgs false
theorem lockagelaw07_FrameStays.calls (k : Nat) (A0 : Option Addr) (c0 : Nat) (l0 : List Int) (a1 : Int) (a2 : Int) (a3 : Bool) (r : Bool) (w : World) (hr0 : Kd.C (Kd.int .u8) w A0 l0.length l0) (hc0 : l0.length ≤ c0) (h : lockagelaw07_FrameStays.f k l0 a1 a2 a3 = some r) :
    Calls Tryd.prog 7 #[.slice A0 l0.length c0, .int .u8 a1, .int .u8 a2, .bool a3] w fun e w' => e = .returned (.bool r) ∧ Below w.heap.size w w' := by
  by_cases hb_ : ∀ x1 x2 x3 x4 x5 x6, lockagelaw06_Made.f k l0 a3 = some (x1, x2, x3, x4, x5, x6) → x5 = 0
  · exact lockagelaw07_FrameStays.calls0 k A0 c0 l0 a1 a2 a3 r w hr0 hc0 ⟨hb_⟩ h
  · refine lockagelaw07_FrameStays.calls1 k A0 c0 l0 a1 a2 a3 r w hr0 hc0 ⟨fun x1 x2 x3 x4 x5 x6 hm hp => hb_ fun y1 y2 y3 y4 y5 y6 hm' => ?_⟩ h
    have e_ := Option.some.inj (hm.symm.trans hm')
    cases e_
    exact hp
/-- THE ONE PURE STATEMENT of lockagelaw07_FrameStays: yours. -/
def lockagelaw07_FrameStays.Pure : Prop := ∀ (l0 : List Int) (a1 : Int) (a2 : Int) (a3 : Bool), l0.length ≤ maxLen → l0.length * 1 ≤ 140737488351232 → (∀ x ∈ l0, (Lit.int .u8 x).wf = true) → (Lit.int .u8 a1).wf = true → (Lit.int .u8 a2).wf = true → ∃ k, lockagelaw07_FrameStays.f k l0 a1 a2 a3 = some true
theorem lockagelaw07_FrameStays.walk (P : lockagelaw07_FrameStays.Pure) (a0 : Option Addr) (len0 cap0 : Nat) (z0 : List Int) (a1 : Int) (a2 : Int) (a3 : Bool) (w : World) (w0 : (a0 = none ∧ len0 = 0 ∧ cap0 = 0 ∧ z0 = []) ∨ ∃ x, a0 = some x ∧ len0 ≤ cap0 ∧ cap0 ≤ maxLen ∧ z0.length = cap0 ∧ (∀ i, i < z0.length → w.cell? (x.add i) = some (.int .u8 (z0.getD i 0))) ∧ ∀ n ∈ z0, (Lit.int .u8 n).wf = true) (y0 : len0 * 1 ≤ 140737488351232) (w1 : (Lit.int .u8 a1).wf = true) (w2 : (Lit.int .u8 a2).wf = true) :
  Calls Tryd.prog 7 #[.slice a0 len0 cap0, .int .u8 a1, .int .u8 a2, .bool a3] w fun e w' => e = .returned (.bool true) ∧ Below w.heap.size w w' := by
 obtain ⟨l0, rfl, hr0, hm0, hw0, hc0⟩ := ReadsInt.ofRowC w0
 obtain ⟨k, h⟩ := P l0 a1 a2 a3 hm0 y0 hw0 w1 w2
 refine (lockagelaw07_FrameStays.calls k _ _ l0 a1 a2 a3 true w (Kd.C_of_reads (d := (0 : Int)) (h1 := fun _ => rfl) hr0) hc0 h).mono ?_
 rintro e w' ⟨rfl, hd⟩
 exact ⟨rfl, hd⟩

end Go.Proofs.YtljppmpigijgaaaDoor.P

