/- Printed by a program of the session out of the translation: plain Lean functions, each with the contract that the Go function computes it. -/
import Derived.Test.YtapeodbgobkjeaaGreatDoorHZM
import Derived.Test.YtapeodbgobkjeaaGreatDoorPx0
import Derived.Test.YtapeodbgobkjeaaGreatDoorPxA
import Derived.Test.YtapeodbgobkjeaaGreatDoorPx11
import Derived.Test.YtapeodbgobkjeaaGreatDoorPx29
import Derived.Test.YtapeodbgobkjeaaGreatDoorHZB
namespace Go.Proofs.YtapeodbgobkjeaaGreatDoor.P
open Go.RowKit Go.Proofs.YtapeodbgobkjeaaGreatDoorW.PrintWords Go.Proofs.YtapeodbgobkjeaaGreatDoorW.PrintLast Go.Proofs.YtapeodbgobkjeaaGreatDoorW.PrintMore
attribute [local go_sem] max2_int min2_int max_two min_two max_three min_three max_four min_four   -- for this text's walks alone
set_option linter.unusedVariables false
set_option linter.unusedSimpArgs false

attribute [local go_sem high] eqA24 eqA26
def message_End.j0 : Nat → Bool → Option (ByteArray × ByteArray × Int × ByteArray × Int × (List (S40)) × ByteArray × Bool × Int)
 | 0, _ => none
 | k + 1, x27 => if x27 = true then (some ((⟨#[]⟩ : ByteArray), (⟨#[]⟩ : ByteArray), 0, (⟨#[]⟩ : ByteArray), 0, ([] : List (S40)), (⟨#[]⟩ : ByteArray), false, 22)) else (some ((⟨#[]⟩ : ByteArray), (⟨#[]⟩ : ByteArray), 0, (⟨#[]⟩ : ByteArray), 0, ([] : List (S40)), (⟨#[]⟩ : ByteArray), false, 0))
def message_End.f (k : Nat) (a0_0 : Bool) (a0_1 : ByteArray) (a0_2 : ByteArray) (a0_3 : Int) (a0_4 : Int) (a0_5 : ByteArray) (a0_6 : Int) (a0_7 : Int) (a0_8 : ByteArray) (a0_9 : Int) (a0_10 : ByteArray) (a0_11 : ByteArray) (a0_12 : Int) (a0_13 : ByteArray) (a0_14 : Int) (l0_15 : List (S40)) (a0_16 : Int) : Option (ByteArray × ByteArray × Int × ByteArray × Int × (List (S40)) × ByteArray × Bool × Int) := (message_Right.f k a0_0 a0_1 a0_2 a0_3 a0_4 a0_5 a0_6 a0_7 a0_8 a0_9 a0_10 a0_11 a0_12 a0_13 a0_14 l0_15 a0_16).bind fun t701 => (if t701 = true then (if a0_16 = 0 then (if a0_3 = 4 then (some (a0_10, a0_11, a0_12, a0_13, a0_14, l0_15, a0_5, true, 0)) else (if a0_3 = 0 then (message_End.j0 k (a0_2.toList != ([] : List UInt8))) else (message_End.j0 k (a0_3 != 0)))) else (some ((⟨#[]⟩ : ByteArray), (⟨#[]⟩ : ByteArray), 0, (⟨#[]⟩ : ByteArray), 0, ([] : List (S40)), (⟨#[]⟩ : ByteArray), false, a0_16))) else (some ((⟨#[]⟩ : ByteArray), (⟨#[]⟩ : ByteArray), 0, (⟨#[]⟩ : ByteArray), 0, ([] : List (S40)), (⟨#[]⟩ : ByteArray), false, 1)))
theorem message_End.mono_l : ∀ k, (∀ y0, LeO (message_End.j0 k y0) (message_End.j0 (k + 1) y0))
 | 0 => fun _ r h => by simp [message_End.j0] at h
 | k + 1 => by
  have ih0 := message_End.mono_l k
  ·intro y0
   unfold message_End.j0; have m0 := @message_Right.mono; exact zM
theorem message_End.mono : ∀ a0 a1 a2 a3 a4 a5 a6 a7 a8 a9 a10 a11 a12 a13 a14 a15 a16 k, LeO (message_End.f k a0 a1 a2 a3 a4 a5 a6 a7 a8 a9 a10 a11 a12 a13 a14 a15 a16) (message_End.f (k + 1) a0 a1 a2 a3 a4 a5 a6 a7 a8 a9 a10 a11 a12 a13 a14 a15 a16) := by
 intro a0 a1 a2 a3 a4 a5 a6 a7 a8 a9 a10 a11 a12 a13 a14 a15 a16 k
 have ih0 := message_End.mono_l k
 unfold message_End.f; have m0 := @message_Right.mono; exact zM
end Go.Proofs.YtapeodbgobkjeaaGreatDoor.P
