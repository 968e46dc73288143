/- Printed by a program of the session out of the translation: plain Lean functions, each with the contract that the Go function computes it. -/
import Derived.Test.YthmallhjbhphgaaGreatDoorHZm
import Derived.Test.YthmallhjbhphgaaGreatDoorHZ
import Derived.Test.YthmallhjbhphgaaGreatDoorPx0
namespace Go.Proofs.YthmallhjbhphgaaGreatDoor.P
open Go.RowKit Go.Proofs.YthmallhjbhphgaaGreatDoorW.PrintWords Go.Proofs.YthmallhjbhphgaaGreatDoorW.PrintLast Go.Proofs.YthmallhjbhphgaaGreatDoorW.PrintMore
attribute [local go_sem] max2_int min2_int max_two min_two max_three min_three max_four min_four   -- for this text's walks alone
set_option linter.unusedVariables false
set_option linter.unusedSimpArgs false

def lockageref13_free.f (a0 : Int) : Option (Bool) := if a0 ≥ 97 then (if a0 ≤ 122 then (some true) else (if a0 ≥ 65 then (if a0 ≤ 90 then (some true) else (if a0 ≥ 48 then (if a0 ≤ 57 then (some true) else (if a0 = 45 then (some true) else (if a0 = 46 then (some true) else (if a0 = 95 then (some true) else (some (a0 == 126)))))) else (if a0 = 45 then (some true) else (if a0 = 46 then (some true) else (if a0 = 95 then (some true) else (some (a0 == 126))))))) else (if a0 ≥ 48 then (if a0 ≤ 57 then (some true) else (if a0 = 45 then (some true) else (if a0 = 46 then (some true) else (if a0 = 95 then (some true) else (some (a0 == 126)))))) else (if a0 = 45 then (some true) else (if a0 = 46 then (some true) else (if a0 = 95 then (some true) else (some (a0 == 126)))))))) else (if a0 ≥ 65 then (if a0 ≤ 90 then (some true) else (if a0 ≥ 48 then (if a0 ≤ 57 then (some true) else (if a0 = 45 then (some true) else (if a0 = 46 then (some true) else (if a0 = 95 then (some true) else (some (a0 == 126)))))) else (if a0 = 45 then (some true) else (if a0 = 46 then (some true) else (if a0 = 95 then (some true) else (some (a0 == 126))))))) else (if a0 ≥ 48 then (if a0 ≤ 57 then (some true) else (if a0 = 45 then (some true) else (if a0 = 46 then (some true) else (if a0 = 95 then (some true) else (some (a0 == 126)))))) else (if a0 = 45 then (some true) else (if a0 = 46 then (some true) else (if a0 = 95 then (some true) else (some (a0 == 126)))))))
set_option maxHeartbeats 8000000 in
set_option maxRecDepth 100000 in
theorem lockageref13_free.calls (a0 : Int) (r : Bool) (w : World) (h : lockageref13_free.f a0 = some r) :
  Calls Tryz.prog 81 #[.int .u8 a0] w fun e w' => e = .returned (.bool r) ∧ Drawn0 w w' := by
 have H := h; unfold lockageref13_free.f at H; clear h; by_cases c2 : a0 ≥ 97
 ·rw [if_pos c2] at H; have c2b0 := decide_eq_true c2; clear c2; by_cases c3 : a0 ≤ 122
  ·rw [if_pos c3] at H; have c3b0 := decide_eq_true c3; clear c3; obtain rfl := Option.some.inj H
   go_enter Tryz.func81, Tryz.ntmps81
   go_wp2
   go_ret
   exact ⟨zR, zD⟩
  ·rw [if_neg c3] at H; have c3b0 := decide_eq_false c3; clear c3; by_cases c4 : a0 ≥ 65
   ·rw [if_pos c4] at H; have c4b0 := decide_eq_true c4; clear c4; by_cases c5 : a0 ≤ 90
    ·rw [if_pos c5] at H; have c5b0 := decide_eq_true c5; clear c5; obtain rfl := Option.some.inj H
     go_enter Tryz.func81, Tryz.ntmps81
     go_wp2
     go_ret
     exact ⟨zR, zD⟩
    ·rw [if_neg c5] at H; have c5b0 := decide_eq_false c5; clear c5; by_cases c6 : a0 ≥ 48
     ·rw [if_pos c6] at H; have c6b0 := decide_eq_true c6; clear c6; by_cases c7 : a0 ≤ 57
      ·rw [if_pos c7] at H; have c7b0 := decide_eq_true c7; clear c7; obtain rfl := Option.some.inj H
       go_enter Tryz.func81, Tryz.ntmps81
       go_wp2
       go_ret
       exact ⟨zR, zD⟩
      ·rw [if_neg c7] at H; have c7b0 := decide_eq_false c7; clear c7; by_cases c8 : a0 = 45
       ·rw [if_pos c8] at H; obtain ⟨c8b0, c8b1⟩ := zd c8; clear c8; obtain rfl := Option.some.inj H
        go_enter Tryz.func81, Tryz.ntmps81
        go_wp2
        go_ret
        exact ⟨zR, zD⟩
       ·rw [if_neg c8] at H; obtain ⟨c8b0, c8b1⟩ := ze c8; by_cases c9 : a0 = 46
        ·rw [if_pos c9] at H; obtain ⟨c9b0, c9b1⟩ := zd c9; clear c9; obtain rfl := Option.some.inj H
         go_enter Tryz.func81, Tryz.ntmps81
         go_wp2
         go_ret
         exact ⟨zR, zD⟩
        ·rw [if_neg c9] at H; obtain ⟨c9b0, c9b1⟩ := ze c9; by_cases c10 : a0 = 95
         ·rw [if_pos c10] at H; obtain ⟨c10b0, c10b1⟩ := zd c10; clear c10; obtain rfl := Option.some.inj H
          go_enter Tryz.func81, Tryz.ntmps81
          go_wp2
          go_ret
          exact ⟨zR, zD⟩
         ·rw [if_neg c10] at H; obtain ⟨c10b0, c10b1⟩ := ze c10; obtain rfl := Option.some.inj H
          go_enter Tryz.func81, Tryz.ntmps81
          go_wp2
          go_ret
          exact ⟨zR, zD⟩
     ·rw [if_neg c6] at H; have c6b0 := decide_eq_false c6; clear c6; by_cases c11 : a0 = 45
      ·rw [if_pos c11] at H; obtain ⟨c11b0, c11b1⟩ := zd c11; clear c11; obtain rfl := Option.some.inj H
       go_enter Tryz.func81, Tryz.ntmps81
       go_wp2
       go_ret
       exact ⟨zR, zD⟩
      ·rw [if_neg c11] at H; obtain ⟨c11b0, c11b1⟩ := ze c11; by_cases c12 : a0 = 46
       ·rw [if_pos c12] at H; obtain ⟨c12b0, c12b1⟩ := zd c12; clear c12; obtain rfl := Option.some.inj H
        go_enter Tryz.func81, Tryz.ntmps81
        go_wp2
        go_ret
        exact ⟨zR, zD⟩
       ·rw [if_neg c12] at H; obtain ⟨c12b0, c12b1⟩ := ze c12; by_cases c13 : a0 = 95
        ·rw [if_pos c13] at H; obtain ⟨c13b0, c13b1⟩ := zd c13; clear c13; obtain rfl := Option.some.inj H
         go_enter Tryz.func81, Tryz.ntmps81
         go_wp2
         go_ret
         exact ⟨zR, zD⟩
        ·rw [if_neg c13] at H; obtain ⟨c13b0, c13b1⟩ := ze c13; obtain rfl := Option.some.inj H
         go_enter Tryz.func81, Tryz.ntmps81
         go_wp2
         go_ret
         exact ⟨zR, zD⟩
   ·rw [if_neg c4] at H; have c4b0 := decide_eq_false c4; clear c4; by_cases c14 : a0 ≥ 48
    ·rw [if_pos c14] at H; have c14b0 := decide_eq_true c14; clear c14; by_cases c15 : a0 ≤ 57
     ·rw [if_pos c15] at H; have c15b0 := decide_eq_true c15; clear c15; obtain rfl := Option.some.inj H
      go_enter Tryz.func81, Tryz.ntmps81
      go_wp2
      go_ret
      exact ⟨zR, zD⟩
     ·rw [if_neg c15] at H; have c15b0 := decide_eq_false c15; clear c15; by_cases c16 : a0 = 45
      ·rw [if_pos c16] at H; obtain ⟨c16b0, c16b1⟩ := zd c16; clear c16; obtain rfl := Option.some.inj H
       go_enter Tryz.func81, Tryz.ntmps81
       go_wp2
       go_ret
       exact ⟨zR, zD⟩
      ·rw [if_neg c16] at H; obtain ⟨c16b0, c16b1⟩ := ze c16; by_cases c17 : a0 = 46
       ·rw [if_pos c17] at H; obtain ⟨c17b0, c17b1⟩ := zd c17; clear c17; obtain rfl := Option.some.inj H
        go_enter Tryz.func81, Tryz.ntmps81
        go_wp2
        go_ret
        exact ⟨zR, zD⟩
       ·rw [if_neg c17] at H; obtain ⟨c17b0, c17b1⟩ := ze c17; by_cases c18 : a0 = 95
        ·rw [if_pos c18] at H; obtain ⟨c18b0, c18b1⟩ := zd c18; clear c18; obtain rfl := Option.some.inj H
         go_enter Tryz.func81, Tryz.ntmps81
         go_wp2
         go_ret
         exact ⟨zR, zD⟩
        ·rw [if_neg c18] at H; obtain ⟨c18b0, c18b1⟩ := ze c18; obtain rfl := Option.some.inj H
         go_enter Tryz.func81, Tryz.ntmps81
         go_wp2
         go_ret
         exact ⟨zR, zD⟩
    ·rw [if_neg c14] at H; have c14b0 := decide_eq_false c14; clear c14; by_cases c19 : a0 = 45
     ·rw [if_pos c19] at H; obtain ⟨c19b0, c19b1⟩ := zd c19; clear c19; obtain rfl := Option.some.inj H
      go_enter Tryz.func81, Tryz.ntmps81
      go_wp2
      go_ret
      exact ⟨zR, zD⟩
     ·rw [if_neg c19] at H; obtain ⟨c19b0, c19b1⟩ := ze c19; by_cases c20 : a0 = 46
      ·rw [if_pos c20] at H; obtain ⟨c20b0, c20b1⟩ := zd c20; clear c20; obtain rfl := Option.some.inj H
       go_enter Tryz.func81, Tryz.ntmps81
       go_wp2
       go_ret
       exact ⟨zR, zD⟩
      ·rw [if_neg c20] at H; obtain ⟨c20b0, c20b1⟩ := ze c20; by_cases c21 : a0 = 95
       ·rw [if_pos c21] at H; obtain ⟨c21b0, c21b1⟩ := zd c21; clear c21; obtain rfl := Option.some.inj H
        go_enter Tryz.func81, Tryz.ntmps81
        go_wp2
        go_ret
        exact ⟨zR, zD⟩
       ·rw [if_neg c21] at H; obtain ⟨c21b0, c21b1⟩ := ze c21; obtain rfl := Option.some.inj H
        go_enter Tryz.func81, Tryz.ntmps81
        go_wp2
        go_ret
        exact ⟨zR, zD⟩
 ·rw [if_neg c2] at H; have c2b0 := decide_eq_false c2; clear c2; by_cases c22 : a0 ≥ 65
  ·rw [if_pos c22] at H; have c22b0 := decide_eq_true c22; clear c22; by_cases c23 : a0 ≤ 90
   ·rw [if_pos c23] at H; have c23b0 := decide_eq_true c23; clear c23; obtain rfl := Option.some.inj H
    go_enter Tryz.func81, Tryz.ntmps81
    go_wp2
    go_ret
    exact ⟨zR, zD⟩
   ·rw [if_neg c23] at H; have c23b0 := decide_eq_false c23; clear c23; by_cases c24 : a0 ≥ 48
    ·rw [if_pos c24] at H; have c24b0 := decide_eq_true c24; clear c24; by_cases c25 : a0 ≤ 57
     ·rw [if_pos c25] at H; have c25b0 := decide_eq_true c25; clear c25; obtain rfl := Option.some.inj H
      go_enter Tryz.func81, Tryz.ntmps81
      go_wp2
      go_ret
      exact ⟨zR, zD⟩
     ·rw [if_neg c25] at H; have c25b0 := decide_eq_false c25; clear c25; by_cases c26 : a0 = 45
      ·rw [if_pos c26] at H; obtain ⟨c26b0, c26b1⟩ := zd c26; clear c26; obtain rfl := Option.some.inj H
       go_enter Tryz.func81, Tryz.ntmps81
       go_wp2
       go_ret
       exact ⟨zR, zD⟩
      ·rw [if_neg c26] at H; obtain ⟨c26b0, c26b1⟩ := ze c26; by_cases c27 : a0 = 46
       ·rw [if_pos c27] at H; obtain ⟨c27b0, c27b1⟩ := zd c27; clear c27; obtain rfl := Option.some.inj H
        go_enter Tryz.func81, Tryz.ntmps81
        go_wp2
        go_ret
        exact ⟨zR, zD⟩
       ·rw [if_neg c27] at H; obtain ⟨c27b0, c27b1⟩ := ze c27; by_cases c28 : a0 = 95
        ·rw [if_pos c28] at H; obtain ⟨c28b0, c28b1⟩ := zd c28; clear c28; obtain rfl := Option.some.inj H
         go_enter Tryz.func81, Tryz.ntmps81
         go_wp2
         go_ret
         exact ⟨zR, zD⟩
        ·rw [if_neg c28] at H; obtain ⟨c28b0, c28b1⟩ := ze c28; obtain rfl := Option.some.inj H
         go_enter Tryz.func81, Tryz.ntmps81
         go_wp2
         go_ret
         exact ⟨zR, zD⟩
    ·rw [if_neg c24] at H; have c24b0 := decide_eq_false c24; clear c24; by_cases c29 : a0 = 45
     ·rw [if_pos c29] at H; obtain ⟨c29b0, c29b1⟩ := zd c29; clear c29; obtain rfl := Option.some.inj H
      go_enter Tryz.func81, Tryz.ntmps81
      go_wp2
      go_ret
      exact ⟨zR, zD⟩
     ·rw [if_neg c29] at H; obtain ⟨c29b0, c29b1⟩ := ze c29; by_cases c30 : a0 = 46
      ·rw [if_pos c30] at H; obtain ⟨c30b0, c30b1⟩ := zd c30; clear c30; obtain rfl := Option.some.inj H
       go_enter Tryz.func81, Tryz.ntmps81
       go_wp2
       go_ret
       exact ⟨zR, zD⟩
      ·rw [if_neg c30] at H; obtain ⟨c30b0, c30b1⟩ := ze c30; by_cases c31 : a0 = 95
       ·rw [if_pos c31] at H; obtain ⟨c31b0, c31b1⟩ := zd c31; clear c31; obtain rfl := Option.some.inj H
        go_enter Tryz.func81, Tryz.ntmps81
        go_wp2
        go_ret
        exact ⟨zR, zD⟩
       ·rw [if_neg c31] at H; obtain ⟨c31b0, c31b1⟩ := ze c31; obtain rfl := Option.some.inj H
        go_enter Tryz.func81, Tryz.ntmps81
        go_wp2
        go_ret
        exact ⟨zR, zD⟩
  ·rw [if_neg c22] at H; have c22b0 := decide_eq_false c22; clear c22; by_cases c32 : a0 ≥ 48
   ·rw [if_pos c32] at H; have c32b0 := decide_eq_true c32; clear c32; by_cases c33 : a0 ≤ 57
    ·rw [if_pos c33] at H; have c33b0 := decide_eq_true c33; clear c33; obtain rfl := Option.some.inj H
     go_enter Tryz.func81, Tryz.ntmps81
     go_wp2
     go_ret
     exact ⟨zR, zD⟩
    ·rw [if_neg c33] at H; have c33b0 := decide_eq_false c33; clear c33; by_cases c34 : a0 = 45
     ·rw [if_pos c34] at H; obtain ⟨c34b0, c34b1⟩ := zd c34; clear c34; obtain rfl := Option.some.inj H
      go_enter Tryz.func81, Tryz.ntmps81
      go_wp2
      go_ret
      exact ⟨zR, zD⟩
     ·rw [if_neg c34] at H; obtain ⟨c34b0, c34b1⟩ := ze c34; by_cases c35 : a0 = 46
      ·rw [if_pos c35] at H; obtain ⟨c35b0, c35b1⟩ := zd c35; clear c35; obtain rfl := Option.some.inj H
       go_enter Tryz.func81, Tryz.ntmps81
       go_wp2
       go_ret
       exact ⟨zR, zD⟩
      ·rw [if_neg c35] at H; obtain ⟨c35b0, c35b1⟩ := ze c35; by_cases c36 : a0 = 95
       ·rw [if_pos c36] at H; obtain ⟨c36b0, c36b1⟩ := zd c36; clear c36; obtain rfl := Option.some.inj H
        go_enter Tryz.func81, Tryz.ntmps81
        go_wp2
        go_ret
        exact ⟨zR, zD⟩
       ·rw [if_neg c36] at H; obtain ⟨c36b0, c36b1⟩ := ze c36; obtain rfl := Option.some.inj H
        go_enter Tryz.func81, Tryz.ntmps81
        go_wp2
        go_ret
        exact ⟨zR, zD⟩
   ·rw [if_neg c32] at H; have c32b0 := decide_eq_false c32; clear c32; by_cases c37 : a0 = 45
    ·rw [if_pos c37] at H; obtain ⟨c37b0, c37b1⟩ := zd c37; clear c37; obtain rfl := Option.some.inj H
     go_enter Tryz.func81, Tryz.ntmps81
     go_wp2
     go_ret
     exact ⟨zR, zD⟩
    ·rw [if_neg c37] at H; obtain ⟨c37b0, c37b1⟩ := ze c37; by_cases c38 : a0 = 46
     ·rw [if_pos c38] at H; obtain ⟨c38b0, c38b1⟩ := zd c38; clear c38; obtain rfl := Option.some.inj H
      go_enter Tryz.func81, Tryz.ntmps81
      go_wp2
      go_ret
      exact ⟨zR, zD⟩
     ·rw [if_neg c38] at H; obtain ⟨c38b0, c38b1⟩ := ze c38; by_cases c39 : a0 = 95
      ·rw [if_pos c39] at H; obtain ⟨c39b0, c39b1⟩ := zd c39; clear c39; obtain rfl := Option.some.inj H
       go_enter Tryz.func81, Tryz.ntmps81
       go_wp2
       go_ret
       exact ⟨zR, zD⟩
      ·rw [if_neg c39] at H; obtain ⟨c39b0, c39b1⟩ := ze c39; obtain rfl := Option.some.inj H
       go_enter Tryz.func81, Tryz.ntmps81
       go_wp2
       go_ret
       exact ⟨zR, zD⟩

end Go.Proofs.YthmallhjbhphgaaGreatDoor.P
