/- Printed by a program of the session out of the translation: plain Lean functions, each with the contract that the Go function computes it. -/
import Derived.Test.YtapeodbgobkjeaaGreatDoorHZM
import Derived.Test.YtapeodbgobkjeaaGreatDoorPx0
import Derived.Test.YtapeodbgobkjeaaGreatDoorPxC
namespace Go.Proofs.YtapeodbgobkjeaaGreatDoor.P
open Go.RowKit Go.Proofs.YtapeodbgobkjeaaGreatDoorW.PrintWords Go.Proofs.YtapeodbgobkjeaaGreatDoorW.PrintLast Go.Proofs.YtapeodbgobkjeaaGreatDoorW.PrintMore
attribute [local go_sem] max2_int min2_int max_two min_two max_three min_three max_four min_four   -- for this text's walks alone
set_option linter.unusedVariables false
set_option linter.unusedSimpArgs false

def lockageref03_Fits.f (a0 : Int) : Option (Bool) := if a0 ≥ 0 then (some (decide (a0 ≤ 9007199254740992))) else (some false)
set_option maxHeartbeats 8000000 in
set_option maxRecDepth 100000 in
theorem lockageref03_Fits.calls (a0 : Int) (r : Bool) (w : World) (h : lockageref03_Fits.f a0 = some r) :
  Calls Tryz.prog 59 #[.int .i64 a0] w fun e w' => e = .returned (.bool r) ∧ Drawn0 w w' := by
 have H : (if a0 ≥ 0 then (some (decide (a0 ≤ 9007199254740992))) else (some false)) = some r := h; clear h; by_cases c2 : a0 ≥ 0
 ·rw [if_pos c2] at H; have c2b0 := decide_eq_true c2; clear c2; obtain rfl := Option.some.inj H
  go_enter Tryz.func59, Tryz.ntmps59
  go_wp2
  go_ret
  exact ⟨zR, zD⟩
 ·rw [if_neg c2] at H; have c2b0 := decide_eq_false c2; clear c2; obtain rfl := Option.some.inj H
  go_enter Tryz.func59, Tryz.ntmps59
  go_wp2
  go_ret
  exact ⟨zR, zD⟩

end Go.Proofs.YtapeodbgobkjeaaGreatDoor.P
