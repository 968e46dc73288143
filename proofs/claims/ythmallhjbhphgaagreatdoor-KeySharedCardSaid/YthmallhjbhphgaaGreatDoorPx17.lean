/- Printed by a program of the session out of the translation: plain Lean functions, each with the contract that the Go function computes it. -/
import Derived.Test.YthmallhjbhphgaaGreatDoorHZm
import Derived.Test.YthmallhjbhphgaaGreatDoorHZ
import Derived.Test.YthmallhjbhphgaaGreatDoorPx0
import Derived.Test.YthmallhjbhphgaaGreatDoorPx5
import Derived.Test.YthmallhjbhphgaaGreatDoorPx7
import Derived.Test.YthmallhjbhphgaaGreatDoorPx15
import Derived.Test.YthmallhjbhphgaaGreatDoorHZC
namespace Go.Proofs.YthmallhjbhphgaaGreatDoor.P
open Go.RowKit Go.Proofs.YthmallhjbhphgaaGreatDoorW.PrintWords Go.Proofs.YthmallhjbhphgaaGreatDoorW.PrintLast Go.Proofs.YthmallhjbhphgaaGreatDoorW.PrintMore
attribute [local go_sem] max2_int min2_int max_two min_two max_three min_three max_four min_four   -- for this text's walks alone
set_option linter.unusedVariables false
set_option linter.unusedSimpArgs false

def lockagelaw16_KeyShared.f (k : Nat) (l0 : List Int) (a1 : Int) (a2 : Int) : Option (Bool) := (lockagelaw16_Request.f k l0).bind fun bt467 => ((some (([(⟨#[65, 117, 116, 104, 111, 114, 105, 122, 97, 116, 105, 111, 110]⟩ : ByteArray), (⟨#[67, 79, 79, 75, 73, 69]⟩ : ByteArray), (⟨#[114, 97, 110, 103, 101]⟩ : ByteArray), (⟨#[67, 97, 99, 104, 101, 45, 67, 111, 110, 116, 114, 111, 108]⟩ : ByteArray), (⟨#[99, 97, 99, 104, 101, 45, 99, 111, 110, 116, 114, 111, 108]⟩ : ByteArray), (⟨#[88]⟩ : ByteArray)] : List ByteArray) : List ByteArray)).bind fun y477 => (if 0 ≤ (Int.tmod (wrap64 (a1)) 6) then (if (Int.tmod (wrap64 (a1)) 6) < (y477.length : Int) then ((some (([(⟨#[]⟩ : ByteArray), (⟨#[110, 111, 45, 115, 116, 111, 114, 101]⟩ : ByteArray), (⟨#[97, 44, 32, 78, 111, 45, 83, 116, 111, 114, 101]⟩ : ByteArray), (⟨#[110, 111, 45, 99, 97, 99, 104, 101]⟩ : ByteArray), (⟨#[110, 111, 45, 115, 116, 111, 114, 101, 61, 49]⟩ : ByteArray)] : List ByteArray) : List ByteArray)).bind fun y481 => (if 0 ≤ (Int.tmod (wrap64 (a2)) 5) then (if (Int.tmod (wrap64 (a2)) 5) < (y481.length : Int) then (if bt467.2.2.2.2.2.1.length < 4398046511104 then ((some (bt467.2.2.2.2.2.1 ++ [(⟨rdOf ByteArray.empty y477 (Int.tmod (wrap64 (a1)) 6), rdOf ByteArray.empty y481 (Int.tmod (wrap64 (a2)) 5)⟩ : S37)] : List (S37))).bind fun y486 => ((lockagelaw16_awake.f k).bind fun t489 => (if t489 = true then ((key_Shared.f k (⟨#[71, 69, 84]⟩ : ByteArray) bt467.2.1 bt467.2.2.1 bt467.2.2.2.1 bt467.2.2.2.2.1 y486 bt467.2.2.2.2.2.2).bind fun t490 => ((lockageref16_Shared.f k (⟨#[71, 69, 84]⟩ : ByteArray) bt467.2.1 bt467.2.2.1 bt467.2.2.2.1 bt467.2.2.2.2.1 y486 bt467.2.2.2.2.2.2).bind fun t491 => (if (t490 == t491) = true then ((lockagelaw16_same.f k (⟨#[71, 69, 84]⟩ : ByteArray) bt467.2.1 bt467.2.2.1 bt467.2.2.2.1 bt467.2.2.2.2.1 y486 bt467.2.2.2.2.2.2 (⟨#[71, 69, 84]⟩ : ByteArray) bt467.2.1 bt467.2.2.1 bt467.2.2.2.1 bt467.2.2.2.2.1 y486 bt467.2.2.2.2.2.2 (⟨#[]⟩ : ByteArray) (⟨#[]⟩ : ByteArray) 0 (⟨#[]⟩ : ByteArray) 0 y486 ([] : List ByteArray)).bind fun t492 => (some t492)) else (none)))) else (none)))) else (none)) else (none)) else (none))) else (none)) else (none)))
theorem lockagelaw16_KeyShared.mono : ∀ a0 a1 a2 k, LeO (lockagelaw16_KeyShared.f k a0 a1 a2) (lockagelaw16_KeyShared.f (k + 1) a0 a1 a2) := by
 intro a0 a1 a2 k
 unfold lockagelaw16_KeyShared.f; have m0 := @key_Shared.mono; have m1 := @lockagelaw16_Request.mono; have m2 := @lockagelaw16_awake.mono; have m3 := @lockagelaw16_same.mono; have m4 := @lockageref16_Shared.mono; exact zM
def lockagelaw16_KeyShared.T3 : Bool × List (List Nat × List Nat) := (true, [([], []), ([], []), ([1], [1]), ([2], [2]), ([0, 3], [0, 3]), ([4], [4]), ([], []), ([], []), ([7], [7]), ([8], [8]), ([6, 9], [6, 9]), ([10], [10]), ([5, 11], [5, 11]), ([], []), ([13, 12, 0, 1, 2, 3, 4, 5, 6, 7, 8, 9, 10, 11, 12, 13], [12, 13])])
def lockagelaw16_KeyShared.B3 : List Nat := [0, 0, 2, 6, 15, 31, 0, 0, 128, 384, 960, 1984, 4095, 0, 16383]
theorem lockagelaw16_KeyShared.tab3 : rtab .any (opsOf Tryz.f5 3) = lockagelaw16_KeyShared.T3 := by kernel_rfl
theorem lockagelaw16_KeyShared.bits3 : waitsOk lockagelaw16_KeyShared.T3.2 lockagelaw16_KeyShared.B3 = true := by kernel_rfl
def lockagelaw16_KeyShared.T5 : Bool × List (List Nat × List Nat) := (true, [([], []), ([0, 0], [0]), ([1], [1]), ([2, 1, 1], [1, 2]), ([1], [1]), ([4, 3, 1], [1, 4]), ([3, 5, 1], [1, 3, 5]), ([1, 6], [1, 6]), ([7, 5], [7]), ([8], [8]), ([8], [8]), ([8], [8]), ([11, 8], [8, 11]), ([12, 8], [8, 12]), ([13, 8], [8, 13]), ([9, 10, 14, 8, 8], [8, 9, 10, 14]), ([8, 15], [8, 15]), ([16, 15, 0, 1, 2, 3, 4, 5, 6, 7, 8, 9, 10, 11, 12, 13, 14, 15, 16], [16])])
def lockagelaw16_KeyShared.B5 : List Nat := [0, 1, 3, 7, 3, 31, 63, 127, 255, 511, 511, 511, 2559, 6655, 14847, 32767, 65535, 131071]
theorem lockagelaw16_KeyShared.tab5 : rtab .any (opsOf Tryz.f5 5) = lockagelaw16_KeyShared.T5 := by kernel_rfl
theorem lockagelaw16_KeyShared.bits5 : waitsOk lockagelaw16_KeyShared.T5.2 lockagelaw16_KeyShared.B5 = true := by kernel_rfl
set_option maxHeartbeats 8000000 in
set_option maxRecDepth 100000 in
theorem lockagelaw16_KeyShared.calls (k : Nat) (A0 : Option Addr) (c0 : Nat) (l0 : List Int) (a1 : Int) (a2 : Int) (r : Bool) (w : World) (hr0 : Kd.C (Kd.int .u8) w A0 l0.length l0) (hc0 : l0.length ≤ c0) (h : lockagelaw16_KeyShared.f k l0 a1 a2 = some r) :
  Calls Tryz.prog 5 #[.slice A0 l0.length c0, .int .u8 a1, .int .u8 a2] w fun e w' => e = .returned (.bool r) ∧ Below w.heap.size w w' := by
 have hu26 := Tryz.underlying26; have hu37 := Tryz.underlying37; have hu24 := Tryz.underlying24; have HR0 := aM hr0; have HC0 := aM hc0; clear hr0 hc0; have HB := aM (Below.refl w.heap.size w); have H := h; unfold lockagelaw16_KeyShared.f at H; clear h; replace H := Option.bind_eq_some_iff.mp H; obtain ⟨⟨t467, t468, t469, t470, t471, t472, t475⟩, A40, H⟩ := H; (try dsimp only at H); have A4 := aM A40; clear A40; obtain ⟨y477, hy477⟩ : ∃ y_ : List ByteArray, y_ = (([(⟨#[65, 117, 116, 104, 111, 114, 105, 122, 97, 116, 105, 111, 110]⟩ : ByteArray), (⟨#[67, 79, 79, 75, 73, 69]⟩ : ByteArray), (⟨#[114, 97, 110, 103, 101]⟩ : ByteArray), (⟨#[67, 97, 99, 104, 101, 45, 67, 111, 110, 116, 114, 111, 108]⟩ : ByteArray), (⟨#[99, 97, 99, 104, 101, 45, 99, 111, 110, 116, 114, 111, 108]⟩ : ByteArray), (⟨#[88]⟩ : ByteArray)] : List ByteArray)) := ⟨_, rfl⟩; (replace H : (if 0 ≤ (Int.tmod (wrap64 (a1)) 6) then (if (Int.tmod (wrap64 (a1)) 6) < (y477.length : Int) then ((some (([(⟨#[]⟩ : ByteArray), (⟨#[110, 111, 45, 115, 116, 111, 114, 101]⟩ : ByteArray), (⟨#[97, 44, 32, 78, 111, 45, 83, 116, 111, 114, 101]⟩ : ByteArray), (⟨#[110, 111, 45, 99, 97, 99, 104, 101]⟩ : ByteArray), (⟨#[110, 111, 45, 115, 116, 111, 114, 101, 61, 49]⟩ : ByteArray)] : List ByteArray) : List ByteArray)).bind fun y481 => (if 0 ≤ (Int.tmod (wrap64 (a2)) 5) then (if (Int.tmod (wrap64 (a2)) 5) < (y481.length : Int) then (if t472.length < 4398046511104 then ((some (t472 ++ [(⟨rdOf ByteArray.empty y477 (Int.tmod (wrap64 (a1)) 6), rdOf ByteArray.empty y481 (Int.tmod (wrap64 (a2)) 5)⟩ : S37)] : List (S37))).bind fun y486 => ((lockagelaw16_awake.f k).bind fun t489 => (if t489 = true then ((key_Shared.f k (⟨#[71, 69, 84]⟩ : ByteArray) t468 t469 t470 t471 y486 t475).bind fun t490 => ((lockageref16_Shared.f k (⟨#[71, 69, 84]⟩ : ByteArray) t468 t469 t470 t471 y486 t475).bind fun t491 => (if (t490 == t491) = true then ((lockagelaw16_same.f k (⟨#[71, 69, 84]⟩ : ByteArray) t468 t469 t470 t471 y486 t475 (⟨#[71, 69, 84]⟩ : ByteArray) t468 t469 t470 t471 y486 t475 (⟨#[]⟩ : ByteArray) (⟨#[]⟩ : ByteArray) 0 (⟨#[]⟩ : ByteArray) 0 y486 ([] : List ByteArray)).bind fun t492 => (some t492)) else (none)))) else (none)))) else (none)) else (none)) else (none))) else (none)) else (none)) = some r := by first | (rw [hy477]; with_reducible exact H) | (have H2_ := (Option.bind_some _ _).symm.trans H; rw [hy477]; with_reducible exact H2_) | (have H2_ := (Option.bind_some _ _).symm.trans H; with_reducible exact H2_) | with_reducible exact H | (rw [hy477]; exact H) | exact H); have Ny477 := aM hy477; clear hy477; obtain ⟨ji5, hji5⟩ : ∃ j_ : Int, (Int.tmod (wrap64 (a1)) 6) = j_ := ⟨_, rfl⟩
 (first | rw [hji5] at H | simp only [hji5] at H)
 (try rw [hji5] at A4)
 by_cases c6 : 0 ≤ (ji5)
 ·rw [if_pos c6] at H; have c6b0 : decide (0 ≤ (ji5)) = true := decide_eq_true c6; clear c6; by_cases c7 : (ji5) < (y477.length : Int)
  ·rw [if_pos c7] at H; have c7b0 : decide ((ji5) < (y477.length : Int)) = true := decide_eq_true c7; clear c7; obtain ⟨y481, hy481⟩ : ∃ y_ : List ByteArray, y_ = (([(⟨#[]⟩ : ByteArray), (⟨#[110, 111, 45, 115, 116, 111, 114, 101]⟩ : ByteArray), (⟨#[97, 44, 32, 78, 111, 45, 83, 116, 111, 114, 101]⟩ : ByteArray), (⟨#[110, 111, 45, 99, 97, 99, 104, 101]⟩ : ByteArray), (⟨#[110, 111, 45, 115, 116, 111, 114, 101, 61, 49]⟩ : ByteArray)] : List ByteArray)) := ⟨_, rfl⟩; (replace H : (if 0 ≤ (Int.tmod (wrap64 (a2)) 5) then (if (Int.tmod (wrap64 (a2)) 5) < (y481.length : Int) then (if t472.length < 4398046511104 then ((some (t472 ++ [(⟨rdOf ByteArray.empty y477 (ji5), rdOf ByteArray.empty y481 (Int.tmod (wrap64 (a2)) 5)⟩ : S37)] : List (S37))).bind fun y486 => ((lockagelaw16_awake.f k).bind fun t489 => (if t489 = true then ((key_Shared.f k (⟨#[71, 69, 84]⟩ : ByteArray) t468 t469 t470 t471 y486 t475).bind fun t490 => ((lockageref16_Shared.f k (⟨#[71, 69, 84]⟩ : ByteArray) t468 t469 t470 t471 y486 t475).bind fun t491 => (if (t490 == t491) = true then ((lockagelaw16_same.f k (⟨#[71, 69, 84]⟩ : ByteArray) t468 t469 t470 t471 y486 t475 (⟨#[71, 69, 84]⟩ : ByteArray) t468 t469 t470 t471 y486 t475 (⟨#[]⟩ : ByteArray) (⟨#[]⟩ : ByteArray) 0 (⟨#[]⟩ : ByteArray) 0 y486 ([] : List ByteArray)).bind fun t492 => (some t492)) else (none)))) else (none)))) else (none)) else (none)) else (none)) = some r := by first | (rw [hy481]; with_reducible exact H) | (have H2_ := (Option.bind_some _ _).symm.trans H; rw [hy481]; with_reducible exact H2_) | (have H2_ := (Option.bind_some _ _).symm.trans H; with_reducible exact H2_) | with_reducible exact H | (rw [hy481]; exact H) | exact H); have Ny481 := aM hy481; clear hy481; obtain ⟨ji8, hji8⟩ : ∃ j_ : Int, (Int.tmod (wrap64 (a2)) 5) = j_ := ⟨_, rfl⟩
   (first | rw [hji8] at H | simp only [hji8] at H)
   (try rw [hji8] at A4)
   by_cases c9 : 0 ≤ (ji8)
   ·rw [if_pos c9] at H; have c9b0 : decide (0 ≤ (ji8)) = true := decide_eq_true c9; clear c9; by_cases c10 : (ji8) < (y481.length : Int)
    ·rw [if_pos c10] at H; have c10b0 : decide ((ji8) < (y481.length : Int)) = true := decide_eq_true c10; clear c10; by_cases c11 : t472.length < 4398046511104
     ·rw [if_pos c11] at H; have LMc11 := aM c11; clear c11; obtain ⟨y486, hy486⟩ : ∃ y_ : List (S37), y_ = (t472 ++ [(⟨rdOf ByteArray.empty y477 (ji5), rdOf ByteArray.empty y481 (ji8)⟩ : S37)]) := ⟨_, rfl⟩; (replace H : ((lockagelaw16_awake.f k).bind fun t489 => (if t489 = true then ((key_Shared.f k (⟨#[71, 69, 84]⟩ : ByteArray) t468 t469 t470 t471 y486 t475).bind fun t490 => ((lockageref16_Shared.f k (⟨#[71, 69, 84]⟩ : ByteArray) t468 t469 t470 t471 y486 t475).bind fun t491 => (if (t490 == t491) = true then ((lockagelaw16_same.f k (⟨#[71, 69, 84]⟩ : ByteArray) t468 t469 t470 t471 y486 t475 (⟨#[71, 69, 84]⟩ : ByteArray) t468 t469 t470 t471 y486 t475 (⟨#[]⟩ : ByteArray) (⟨#[]⟩ : ByteArray) 0 (⟨#[]⟩ : ByteArray) 0 y486 ([] : List ByteArray)).bind fun t492 => (some t492)) else (none)))) else (none))) = some r := by first | (rw [hy486]; with_reducible exact H) | (have H2_ := (Option.bind_some _ _).symm.trans H; rw [hy486]; with_reducible exact H2_) | (have H2_ := (Option.bind_some _ _).symm.trans H; with_reducible exact H2_) | with_reducible exact H | (rw [hy486]; exact H) | exact H); have Ny486 := aM hy486; clear hy486; replace H := Option.bind_eq_some_iff.mp H; obtain ⟨t489, A120, H⟩ := H; (try dsimp only at H); have A12 := aM A120; clear A120; by_cases c13 : t489 = true
      ·subst c13; (have H1 : ((key_Shared.f k (⟨#[71, 69, 84]⟩ : ByteArray) t468 t469 t470 t471 y486 t475).bind fun t490 => ((lockageref16_Shared.f k (⟨#[71, 69, 84]⟩ : ByteArray) t468 t469 t470 t471 y486 t475).bind fun t491 => (if (t490 == t491) = true then ((lockagelaw16_same.f k (⟨#[71, 69, 84]⟩ : ByteArray) t468 t469 t470 t471 y486 t475 (⟨#[71, 69, 84]⟩ : ByteArray) t468 t469 t470 t471 y486 t475 (⟨#[]⟩ : ByteArray) (⟨#[]⟩ : ByteArray) 0 (⟨#[]⟩ : ByteArray) 0 y486 ([] : List ByteArray)).bind fun t492 => (some t492)) else (none)))) = some r := by rw [if_pos rfl] at H; exact H); clear H; have H := H1; clear H1; replace H := Option.bind_eq_some_iff.mp H; obtain ⟨t490, A140, H⟩ := H; (try dsimp only at H); have A14 := aM A140; clear A140; replace H := Option.bind_eq_some_iff.mp H; obtain ⟨t491, A150, H⟩ := H; (try dsimp only at H); have A15 := aM A150; clear A150; by_cases c16 : (t490 == t491) = true
       ·rw [if_pos c16] at H; have c16b0 : (t490 == t491) = true := c16
        (try (have c16b1 : decide (t490 = t491) = true := by simpa using c16))
        (try (have c16b2 : (t490 == t491) = true := by simpa using c16))
        clear c16; replace H := Option.bind_eq_some_iff.mp H; obtain ⟨t492, A170, H⟩ := H; replace H : (some t492) = some r := H; have A17 := aM A170; clear A170; obtain rfl := Option.some.inj H
        go_enter Tryz.func5, Tryz.ntmps5
        try go_wp2_with (first | ((with_reducible refine gate_callee (f := 12) rfl ?_); refine goesL_ (some 10) rfl rfl Tryz.func12 (by kernel_rfl) rfl #[.slice A0 l0.length c0] rfl zL ?_; (with_reducible refine (lockagelaw16_Request.calls k _ _ l0 t467 t468 t469 t470 t471 t472 t475 _ ?side1 ?side2 A4.out).mono ?_); (case side1 => repeat (first | exact HR0.out | (with_reducible refine Kd.C_alloc ?_ _) | (with_reducible refine Kd.C_drewN ?_ _) | (with_reducible refine Kd.C_drew ?_))); (case side2 => exact HC0.out); rintro e w18 ⟨v473, rfl, ho0, hb⟩; refine ⟨_, rfl, ?_⟩; have n0_ := aM (Kd.R_lower ho0 (below_size zB)); have n1_ := aM (below_step zB hb); clear HB; have HO474 := n0_; have HB := n1_; clear n0_ n1_; (try clear hb); (try clear hb2); (try clear hk); (try clear hi); (try clear ho0)) | ((with_reducible refine gate_dst (N := 7) rfl ?_); refine box_event ?hg (N := 7) ?hd (cs := #[.string (⟨#[]⟩ : ByteArray), .string (⟨#[]⟩ : ByteArray), .int .i64 0, .string (⟨#[]⟩ : ByteArray), .int .i64 0, .slice none 0 0, .string (⟨#[]⟩ : ByteArray)]) (t := 26) ?hr ?_; (case hd => rfl); (case hg => rfl); (case hr => exact zG); intro gb476 hg w19 hbox hb; have n0_ := aM (Kd.R_below (zO HO474.out) hb); have n1_ := aM (below_step zB hb); have n2_ := aM (hbox); have n3_ := aM ((by rw [hg]; exact (below_size zB) : w.heap.size ≤ gb476)); have n4_ := n3_; clear HO474 HB; have HO474 := n0_; have HB := n1_; have BK476 := n2_; have GW476 := n3_; have GE476 := n4_; clear n0_ n1_ n2_ n3_ n4_; clear hb hbox hg; obtain ⟨_, _, _, _, _, _, _, _, _, _, _, _, _, _⟩ := cz7 BK476.out; obtain ⟨Ao21, co21, eo21⟩ := Kd.R_slice HO474.out; subst eo21))
        have pi480 : (0 ≤ ((ji5) : Int)) = True := eq_true (of_decide_eq_true zA); have qi480 : ((ji5) < (y477.length : Int)) = True := eq_true (of_decide_eq_true zA); have pi484 : (0 ≤ ((ji8) : Int)) = True := eq_true (of_decide_eq_true zA); have qi484 : ((ji8) < (y481.length : Int)) = True := eq_true (of_decide_eq_true zA); have n0_ : Aside0 (Kd.R k37 37 ((((((((w19.setCell ⟨gb476, 0, none⟩ (.string t467)).setCell ⟨gb476, 1, none⟩ (.string t468)).setCell ⟨gb476, 2, none⟩ (.int .i64 t469)).setCell ⟨gb476, 3, none⟩ (.string t470)).setCell ⟨gb476, 4, none⟩ (.int .i64 t471)).setCell ⟨gb476, 5, none⟩ (.slice Ao21 t472.length co21)).setCell ⟨gb476, 6, none⟩ (.string t475)).setCell ⟨gb476, 0, none⟩ (.string (⟨#[71, 69, 84]⟩ : ByteArray))) w.heap.size (fun _ => True) (.slice Ao21 t472.length co21) t472) := ⟨by (with_reducible repeat (first | apply rA | apply rN | apply rD)); exact Kd.R_mono (Kd.R_far (p := ⟨gb476, 0, none⟩) (Kd.R_far (p := ⟨gb476, 6, none⟩) (Kd.R_far (p := ⟨gb476, 5, none⟩) (Kd.R_far (p := ⟨gb476, 4, none⟩) (Kd.R_far (p := ⟨gb476, 3, none⟩) (Kd.R_far (p := ⟨gb476, 2, none⟩) (Kd.R_far (p := ⟨gb476, 1, none⟩) (Kd.R_far (p := ⟨gb476, 0, none⟩) (Kd.R_types HO474.out BK476.out (by decide)) (fun _ hk => hk.2) (.string t467)) (fun _ hk => hk.2) (.string t468)) (fun _ hk => hk.2) (.int .i64 t469)) (fun _ hk => hk.2) (.string t470)) (fun _ hk => hk.2) (.int .i64 t471)) (fun _ hk => hk.2) (.slice Ao21 t472.length co21)) (fun _ hk => hk.2) (.string t475)) (fun _ hk => hk.2) (.string (⟨#[71, 69, 84]⟩ : ByteArray))) (fun _ hk => trivial)⟩; have n1_ : Aside0 (((((((((w19.setCell ⟨gb476, 0, none⟩ (.string t467)).setCell ⟨gb476, 1, none⟩ (.string t468)).setCell ⟨gb476, 2, none⟩ (.int .i64 t469)).setCell ⟨gb476, 3, none⟩ (.string t470)).setCell ⟨gb476, 4, none⟩ (.int .i64 t471)).setCell ⟨gb476, 5, none⟩ (.slice Ao21 t472.length co21)).setCell ⟨gb476, 6, none⟩ (.string t475)).setCell ⟨gb476, 0, none⟩ (.string (⟨#[71, 69, 84]⟩ : ByteArray))).heap[gb476]? = some (.cells #[.string (⟨#[71, 69, 84]⟩ : ByteArray), .string t468, .int .i64 t469, .string t470, .int .i64 t471, .slice Ao21 t472.length co21, .string t475] 26 (0, 0))) := ⟨zQ7 BK476.out⟩; have n2_ : Aside0 (Below w.heap.size w ((((((((w19.setCell ⟨gb476, 0, none⟩ (.string t467)).setCell ⟨gb476, 1, none⟩ (.string t468)).setCell ⟨gb476, 2, none⟩ (.int .i64 t469)).setCell ⟨gb476, 3, none⟩ (.string t470)).setCell ⟨gb476, 4, none⟩ (.int .i64 t471)).setCell ⟨gb476, 5, none⟩ (.slice Ao21 t472.length co21)).setCell ⟨gb476, 6, none⟩ (.string t475)).setCell ⟨gb476, 0, none⟩ (.string (⟨#[71, 69, 84]⟩ : ByteArray)))) := ⟨zB⟩
        (try clear HO474)
        (try clear BK476)
        (try clear HB)
        generalize ((((((((w19.setCell ⟨gb476, 0, none⟩ (.string t467)).setCell ⟨gb476, 1, none⟩ (.string t468)).setCell ⟨gb476, 2, none⟩ (.int .i64 t469)).setCell ⟨gb476, 3, none⟩ (.string t470)).setCell ⟨gb476, 4, none⟩ (.int .i64 t471)).setCell ⟨gb476, 5, none⟩ (.slice Ao21 t472.length co21)).setCell ⟨gb476, 6, none⟩ (.string t475)).setCell ⟨gb476, 0, none⟩ (.string (⟨#[71, 69, 84]⟩ : ByteArray))) = w22 at n0_ n1_ n2_ ⊢; have HO474 := n0_; have BK476 := n1_; have HB := n2_; clear n0_ n1_ n2_; have n0_ := aM (rD HO474.out); have n1_ := aM (bD BK476.out); have n2_ := aM (lD HB.out); clear HO474 BK476 HB; have HO474 := n0_; have BK476 := n1_; have HB := n2_; clear n0_ n1_ n2_
        refine start_ (n := 15) (S := fun w' => True) (ds := []) (dB 15 0) (by kernel_rfl) rfl rfl trivial (fun hHeld => ?_); refine with_tabW lockagelaw16_KeyShared.tab3 lockagelaw16_KeyShared.bits3 (fun HT_ HW_ => ?_)
        generalize w22.drew = w23 at HO474 BK476 HB hHeld ⊢
        refine pure_ (i := 1) (N := some 14) (v := ?_) (a' := ?_) (dB 15 2) rfl rfl (zT HT_.out) (fun _ _ _ h => h) (Or.inl ⟨by rfl, ?_⟩) ?_ ?_
        rotate_left
        ·intro w'; go_simp; (with_reducible rfl)
        rotate_left
        ·exact zP
        refine pure_ (i := 2) (N := some 15) (v := ?_) (a' := ?_) (dB 15 6) rfl rfl (zT HT_.out) (fun _ _ _ h => h) (Or.inl ⟨by rfl, ?_⟩) ?_ ?_
        rotate_left
        ·intro w'; go_simp; (with_reducible rfl)
        rotate_left
        ·exact zP
        refine pure_ (i := 3) (N := some 16) (v := ?_) (a' := ?_) (dB 15 14) rfl rfl (zT HT_.out) (fun _ _ _ h => h) (Or.inl ⟨by rfl, ?_⟩) ?_ ?_
        rotate_left
        ·intro w'; go_simp; (with_reducible rfl)
        rotate_left
        ·exact zP
        refine pure_ (i := 7) (N := some 20) (v := ?_) (a' := ?_) (dB 15 142) rfl rfl (zT HT_.out) (fun _ _ _ h => h) (Or.inl ⟨by rfl, ?_⟩) ?_ ?_
        rotate_left
        ·intro w'; go_simp; (with_reducible rfl)
        rotate_left
        ·exact zP
        refine pure_ (i := 8) (N := some 21) (v := ?_) (a' := ?_) (dB 15 398) rfl rfl (zT HT_.out) (fun _ _ _ h => h) (Or.inl ⟨by rfl, ?_⟩) ?_ ?_
        rotate_left
        ·intro w'; go_simp; (with_reducible rfl)
        rotate_left
        ·exact zP
        refine pure_ (i := 9) (N := some 22) (v := ?_) (a' := ?_) (dB 15 910) rfl rfl (zT HT_.out) (fun _ _ _ h => h) (Or.inl ⟨by rfl, ?_⟩) ?_ ?_
        rotate_left
        ·intro w'; go_simp; (with_reducible rfl)
        rotate_left
        ·exact zP
        refine join_ (σ := Value × Addr × Value × Addr × Nat) 1 (dB 15 16383) (fun s_ => [(13, s_.1), (18, .string (rdOf ByteArray.empty y477 (ji5))), (19, s_.2.2.1), (24, .string (rdOf ByteArray.empty y481 (ji8))), (8, .pointer (some ⟨s_.2.2.2.2, 0, none⟩)), (17, .pointer (some (s_.2.1.add ((ji5)).toNat))), (23, .pointer (some (s_.2.2.2.1.add ((ji8)).toNat))), (25, .agg #[.string (rdOf ByteArray.empty y477 (ji5)), .string (rdOf ByteArray.empty y481 (ji8))])]) (fun s_ w' => (Kd.R k37 37 w' w.heap.size (fun k_ => k_ ≠ s_.2.2.2.2) (.slice Ao21 t472.length co21) t472) ∧ (Kd.R Kd.string 9 w' w.heap.size (fun k_ => some k_ ≠ (s_.2.2.1 : Value).ownBlock) s_.1 y477) ∧ (Kd.R Kd.string 9 w' w.heap.size (fun k_ => some k_ ≠ (s_.1 : Value).ownBlock) s_.2.2.1 y481) ∧ (∃ c_, (s_.1 : Value) = .slice (some s_.2.1) y477.length c_) ∧ (∃ c_, (s_.2.2.1 : Value) = .slice (some s_.2.2.2.1) y481.length c_) ∧ (w'.heap[gb476]? = some (.cells #[.string (⟨#[71, 69, 84]⟩ : ByteArray), .string t468, .int .i64 t469, .string t470, .int .i64 t471, .slice Ao21 t472.length co21, .string t475] 26 (0, 0))) ∧ (w'.heap[s_.2.2.2.2]? = some (.cells #[.string (⟨#[]⟩ : ByteArray), .string (⟨#[]⟩ : ByteArray)] 37 (0, 0))) ∧ (w.heap.size ≤ s_.2.2.2.2) ∧ (w.heap.size ≤ s_.2.2.2.2) ∧ (gb476 ≠ s_.2.2.2.2) ∧ (s_.2.2.2.2 ≠ gb476) ∧ (Below w.heap.size w w')) ?_ ?_
        rotate_left
        ·intro hJ0_5_6_11_13
         refine join_ (σ := Value × Addr × Value × Addr) 2 (dB 15 8191) (fun s_ => [(13, s_.1), (18, .string (rdOf ByteArray.empty y477 (ji5))), (19, s_.2.2.1), (24, .string (rdOf ByteArray.empty y481 (ji8))), (17, .pointer (some (s_.2.1.add ((ji5)).toNat))), (23, .pointer (some (s_.2.2.2.add ((ji8)).toNat))), (25, .agg #[.string (rdOf ByteArray.empty y477 (ji5)), .string (rdOf ByteArray.empty y481 (ji8))])]) (fun s_ w' => (Kd.R k37 37 w' w.heap.size (fun _ => True) (.slice Ao21 t472.length co21) t472) ∧ (Kd.R Kd.string 9 w' w.heap.size (fun k_ => some k_ ≠ (s_.2.2.1 : Value).ownBlock) s_.1 y477) ∧ (Kd.R Kd.string 9 w' w.heap.size (fun k_ => some k_ ≠ (s_.1 : Value).ownBlock) s_.2.2.1 y481) ∧ (∃ c_, (s_.1 : Value) = .slice (some s_.2.1) y477.length c_) ∧ (∃ c_, (s_.2.2.1 : Value) = .slice (some s_.2.2.2) y481.length c_) ∧ (w'.heap[gb476]? = some (.cells #[.string (⟨#[71, 69, 84]⟩ : ByteArray), .string t468, .int .i64 t469, .string t470, .int .i64 t471, .slice Ao21 t472.length co21, .string t475] 26 (0, 0))) ∧ (Below w.heap.size w w')) ?_ ?_
         rotate_left
         ·intro hJ0_5_6_11
          refine join_ (σ := Value × Addr × Value × Addr × Nat) 3 (dB 15 10239) (fun s_ => [(13, s_.1), (18, .string (rdOf ByteArray.empty y477 (ji5))), (19, s_.2.2.1), (8, .pointer (some ⟨s_.2.2.2.2, 0, none⟩)), (17, .pointer (some (s_.2.1.add ((ji5)).toNat))), (23, .pointer (some (s_.2.2.2.1.add ((ji8)).toNat)))]) (fun s_ w' => (Kd.R k37 37 w' w.heap.size (fun k_ => k_ ≠ s_.2.2.2.2) (.slice Ao21 t472.length co21) t472) ∧ (Kd.R Kd.string 9 w' w.heap.size (fun k_ => some k_ ≠ (s_.2.2.1 : Value).ownBlock) s_.1 y477) ∧ (Kd.R Kd.string 9 w' w.heap.size (fun k_ => some k_ ≠ (s_.1 : Value).ownBlock) s_.2.2.1 y481) ∧ (∃ c_, (s_.1 : Value) = .slice (some s_.2.1) y477.length c_) ∧ (∃ c_, (s_.2.2.1 : Value) = .slice (some s_.2.2.2.1) y481.length c_) ∧ (w'.heap[gb476]? = some (.cells #[.string (⟨#[71, 69, 84]⟩ : ByteArray), .string t468, .int .i64 t469, .string t470, .int .i64 t471, .slice Ao21 t472.length co21, .string t475] 26 (0, 0))) ∧ (w'.heap[s_.2.2.2.2]? = some (.cells #[.string (⟨#[]⟩ : ByteArray), .string (⟨#[]⟩ : ByteArray)] 37 (0, 0))) ∧ (w.heap.size ≤ s_.2.2.2.2) ∧ (w.heap.size ≤ s_.2.2.2.2) ∧ (gb476 ≠ s_.2.2.2.2) ∧ (s_.2.2.2.2 ≠ gb476) ∧ (Below w.heap.size w w')) ?_ ?_
          rotate_left
          ·intro hJ0_5_6_13
           refine join_ (σ := Value × Addr × Value × Addr × Nat) 3 (dB 15 12255) (fun s_ => [(13, s_.1), (19, s_.2.2.1), (24, .string (rdOf ByteArray.empty y481 (ji8))), (8, .pointer (some ⟨s_.2.2.2.2, 0, none⟩)), (17, .pointer (some (s_.2.1.add ((ji5)).toNat))), (23, .pointer (some (s_.2.2.2.1.add ((ji8)).toNat)))]) (fun s_ w' => (Kd.R k37 37 w' w.heap.size (fun k_ => k_ ≠ s_.2.2.2.2) (.slice Ao21 t472.length co21) t472) ∧ (Kd.R Kd.string 9 w' w.heap.size (fun k_ => some k_ ≠ (s_.2.2.1 : Value).ownBlock) s_.1 y477) ∧ (Kd.R Kd.string 9 w' w.heap.size (fun k_ => some k_ ≠ (s_.1 : Value).ownBlock) s_.2.2.1 y481) ∧ (∃ c_, (s_.1 : Value) = .slice (some s_.2.1) y477.length c_) ∧ (∃ c_, (s_.2.2.1 : Value) = .slice (some s_.2.2.2.1) y481.length c_) ∧ (w'.heap[gb476]? = some (.cells #[.string (⟨#[71, 69, 84]⟩ : ByteArray), .string t468, .int .i64 t469, .string t470, .int .i64 t471, .slice Ao21 t472.length co21, .string t475] 26 (0, 0))) ∧ (w'.heap[s_.2.2.2.2]? = some (.cells #[.string (⟨#[]⟩ : ByteArray), .string (⟨#[]⟩ : ByteArray)] 37 (0, 0))) ∧ (w.heap.size ≤ s_.2.2.2.2) ∧ (w.heap.size ≤ s_.2.2.2.2) ∧ (gb476 ≠ s_.2.2.2.2) ∧ (s_.2.2.2.2 ≠ gb476) ∧ (Below w.heap.size w w')) ?_ ?_
           rotate_left
           ·intro hJ0_6_11_13
            refine join_ (σ := Value × Addr × Value × Addr) 4 (dB 15 2047) (fun s_ => [(13, s_.1), (18, .string (rdOf ByteArray.empty y477 (ji5))), (19, s_.2.2.1), (17, .pointer (some (s_.2.1.add ((ji5)).toNat))), (23, .pointer (some (s_.2.2.2.add ((ji8)).toNat)))]) (fun s_ w' => (Kd.R k37 37 w' w.heap.size (fun _ => True) (.slice Ao21 t472.length co21) t472) ∧ (Kd.R Kd.string 9 w' w.heap.size (fun k_ => some k_ ≠ (s_.2.2.1 : Value).ownBlock) s_.1 y477) ∧ (Kd.R Kd.string 9 w' w.heap.size (fun k_ => some k_ ≠ (s_.1 : Value).ownBlock) s_.2.2.1 y481) ∧ (∃ c_, (s_.1 : Value) = .slice (some s_.2.1) y477.length c_) ∧ (∃ c_, (s_.2.2.1 : Value) = .slice (some s_.2.2.2) y481.length c_) ∧ (w'.heap[gb476]? = some (.cells #[.string (⟨#[71, 69, 84]⟩ : ByteArray), .string t468, .int .i64 t469, .string t470, .int .i64 t471, .slice Ao21 t472.length co21, .string t475] 26 (0, 0))) ∧ (Below w.heap.size w w')) ?_ ?_
            rotate_left
            ·intro hJ0_5_6
             refine join_ (σ := Value × Addr × Nat) 5 (dB 15 9151) (fun s_ => [(13, s_.1), (18, .string (rdOf ByteArray.empty y477 (ji5))), (8, .pointer (some ⟨s_.2.2, 0, none⟩)), (17, .pointer (some (s_.2.1.add ((ji5)).toNat)))]) (fun s_ w' => (Kd.R k37 37 w' w.heap.size (fun k_ => k_ ≠ s_.2.2) (.slice Ao21 t472.length co21) t472) ∧ (Kd.R Kd.string 9 w' w.heap.size (fun _ => True) s_.1 y477) ∧ (∃ c_, (s_.1 : Value) = .slice (some s_.2.1) y477.length c_) ∧ (w'.heap[gb476]? = some (.cells #[.string (⟨#[71, 69, 84]⟩ : ByteArray), .string t468, .int .i64 t469, .string t470, .int .i64 t471, .slice Ao21 t472.length co21, .string t475] 26 (0, 0))) ∧ (w'.heap[s_.2.2]? = some (.cells #[.string (⟨#[]⟩ : ByteArray), .string (⟨#[]⟩ : ByteArray)] 37 (0, 0))) ∧ (w.heap.size ≤ s_.2.2) ∧ (w.heap.size ≤ s_.2.2) ∧ (gb476 ≠ s_.2.2) ∧ (s_.2.2 ≠ gb476) ∧ (Below w.heap.size w w')) ?_ ?_
             rotate_left
             ·intro hJ0_5_13
              refine join_ (σ := Value × Addr × Value × Addr) 4 (dB 15 4063) (fun s_ => [(13, s_.1), (19, s_.2.2.1), (24, .string (rdOf ByteArray.empty y481 (ji8))), (17, .pointer (some (s_.2.1.add ((ji5)).toNat))), (23, .pointer (some (s_.2.2.2.add ((ji8)).toNat)))]) (fun s_ w' => (Kd.R k37 37 w' w.heap.size (fun _ => True) (.slice Ao21 t472.length co21) t472) ∧ (Kd.R Kd.string 9 w' w.heap.size (fun k_ => some k_ ≠ (s_.2.2.1 : Value).ownBlock) s_.1 y477) ∧ (Kd.R Kd.string 9 w' w.heap.size (fun k_ => some k_ ≠ (s_.1 : Value).ownBlock) s_.2.2.1 y481) ∧ (∃ c_, (s_.1 : Value) = .slice (some s_.2.1) y477.length c_) ∧ (∃ c_, (s_.2.2.1 : Value) = .slice (some s_.2.2.2) y481.length c_) ∧ (w'.heap[gb476]? = some (.cells #[.string (⟨#[71, 69, 84]⟩ : ByteArray), .string t468, .int .i64 t469, .string t470, .int .i64 t471, .slice Ao21 t472.length co21, .string t475] 26 (0, 0))) ∧ (Below w.heap.size w w')) ?_ ?_
              rotate_left
              ·intro hJ0_6_11
               refine join_ (σ := Value × Addr × Value × Addr × Nat) 4 (dB 15 10207) (fun s_ => [(13, s_.1), (19, s_.2.2.1), (8, .pointer (some ⟨s_.2.2.2.2, 0, none⟩)), (17, .pointer (some (s_.2.1.add ((ji5)).toNat))), (23, .pointer (some (s_.2.2.2.1.add ((ji8)).toNat)))]) (fun s_ w' => (Kd.R k37 37 w' w.heap.size (fun k_ => k_ ≠ s_.2.2.2.2) (.slice Ao21 t472.length co21) t472) ∧ (Kd.R Kd.string 9 w' w.heap.size (fun k_ => some k_ ≠ (s_.2.2.1 : Value).ownBlock) s_.1 y477) ∧ (Kd.R Kd.string 9 w' w.heap.size (fun k_ => some k_ ≠ (s_.1 : Value).ownBlock) s_.2.2.1 y481) ∧ (∃ c_, (s_.1 : Value) = .slice (some s_.2.1) y477.length c_) ∧ (∃ c_, (s_.2.2.1 : Value) = .slice (some s_.2.2.2.1) y481.length c_) ∧ (w'.heap[gb476]? = some (.cells #[.string (⟨#[71, 69, 84]⟩ : ByteArray), .string t468, .int .i64 t469, .string t470, .int .i64 t471, .slice Ao21 t472.length co21, .string t475] 26 (0, 0))) ∧ (w'.heap[s_.2.2.2.2]? = some (.cells #[.string (⟨#[]⟩ : ByteArray), .string (⟨#[]⟩ : ByteArray)] 37 (0, 0))) ∧ (w.heap.size ≤ s_.2.2.2.2) ∧ (w.heap.size ≤ s_.2.2.2.2) ∧ (gb476 ≠ s_.2.2.2.2) ∧ (s_.2.2.2.2 ≠ gb476) ∧ (Below w.heap.size w w')) ?_ ?_
               rotate_left
               ·intro hJ0_6_13
                refine join_ (σ := Value × Addr × Nat) 5 (dB 15 12238) (fun s_ => [(19, s_.1), (24, .string (rdOf ByteArray.empty y481 (ji8))), (8, .pointer (some ⟨s_.2.2, 0, none⟩)), (23, .pointer (some (s_.2.1.add ((ji8)).toNat)))]) (fun s_ w' => (Kd.R k37 37 w' w.heap.size (fun k_ => k_ ≠ s_.2.2) (.slice Ao21 t472.length co21) t472) ∧ (Kd.R Kd.string 9 w' w.heap.size (fun _ => True) s_.1 y481) ∧ (∃ c_, (s_.1 : Value) = .slice (some s_.2.1) y481.length c_) ∧ (w'.heap[gb476]? = some (.cells #[.string (⟨#[71, 69, 84]⟩ : ByteArray), .string t468, .int .i64 t469, .string t470, .int .i64 t471, .slice Ao21 t472.length co21, .string t475] 26 (0, 0))) ∧ (w'.heap[s_.2.2]? = some (.cells #[.string (⟨#[]⟩ : ByteArray), .string (⟨#[]⟩ : ByteArray)] 37 (0, 0))) ∧ (w.heap.size ≤ s_.2.2) ∧ (w.heap.size ≤ s_.2.2) ∧ (gb476 ≠ s_.2.2) ∧ (s_.2.2 ≠ gb476) ∧ (Below w.heap.size w w')) ?_ ?_
                rotate_left
                ·intro hJ6_11_13
                 refine join_ (σ := Value × Addr) 6 (dB 15 959) (fun s_ => [(13, s_.1), (18, .string (rdOf ByteArray.empty y477 (ji5))), (17, .pointer (some (s_.2.add ((ji5)).toNat)))]) (fun s_ w' => (Kd.R k37 37 w' w.heap.size (fun _ => True) (.slice Ao21 t472.length co21) t472) ∧ (Kd.R Kd.string 9 w' w.heap.size (fun _ => True) s_.1 y477) ∧ (∃ c_, (s_.1 : Value) = .slice (some s_.2) y477.length c_) ∧ (w'.heap[gb476]? = some (.cells #[.string (⟨#[71, 69, 84]⟩ : ByteArray), .string t468, .int .i64 t469, .string t470, .int .i64 t471, .slice Ao21 t472.length co21, .string t475] 26 (0, 0))) ∧ (Below w.heap.size w w')) ?_ ?_
                 rotate_left
                 ·intro hJ0_5
                  refine join_ (σ := Value × Addr × Value × Addr) 5 (dB 15 2015) (fun s_ => [(13, s_.1), (19, s_.2.2.1), (17, .pointer (some (s_.2.1.add ((ji5)).toNat))), (23, .pointer (some (s_.2.2.2.add ((ji8)).toNat)))]) (fun s_ w' => (Kd.R k37 37 w' w.heap.size (fun _ => True) (.slice Ao21 t472.length co21) t472) ∧ (Kd.R Kd.string 9 w' w.heap.size (fun k_ => some k_ ≠ (s_.2.2.1 : Value).ownBlock) s_.1 y477) ∧ (Kd.R Kd.string 9 w' w.heap.size (fun k_ => some k_ ≠ (s_.1 : Value).ownBlock) s_.2.2.1 y481) ∧ (∃ c_, (s_.1 : Value) = .slice (some s_.2.1) y477.length c_) ∧ (∃ c_, (s_.2.2.1 : Value) = .slice (some s_.2.2.2) y481.length c_) ∧ (w'.heap[gb476]? = some (.cells #[.string (⟨#[71, 69, 84]⟩ : ByteArray), .string t468, .int .i64 t469, .string t470, .int .i64 t471, .slice Ao21 t472.length co21, .string t475] 26 (0, 0))) ∧ (Below w.heap.size w w')) ?_ ?_
                  rotate_left
                  ·intro hJ0_6
                   refine join_ (σ := Value × Addr × Nat) 6 (dB 15 9119) (fun s_ => [(13, s_.1), (8, .pointer (some ⟨s_.2.2, 0, none⟩)), (17, .pointer (some (s_.2.1.add ((ji5)).toNat)))]) (fun s_ w' => (Kd.R k37 37 w' w.heap.size (fun k_ => k_ ≠ s_.2.2) (.slice Ao21 t472.length co21) t472) ∧ (Kd.R Kd.string 9 w' w.heap.size (fun _ => True) s_.1 y477) ∧ (∃ c_, (s_.1 : Value) = .slice (some s_.2.1) y477.length c_) ∧ (w'.heap[gb476]? = some (.cells #[.string (⟨#[71, 69, 84]⟩ : ByteArray), .string t468, .int .i64 t469, .string t470, .int .i64 t471, .slice Ao21 t472.length co21, .string t475] 26 (0, 0))) ∧ (w'.heap[s_.2.2]? = some (.cells #[.string (⟨#[]⟩ : ByteArray), .string (⟨#[]⟩ : ByteArray)] 37 (0, 0))) ∧ (w.heap.size ≤ s_.2.2) ∧ (w.heap.size ≤ s_.2.2) ∧ (gb476 ≠ s_.2.2) ∧ (s_.2.2 ≠ gb476) ∧ (Below w.heap.size w w')) ?_ ?_
                   rotate_left
                   ·intro hJ0_13
                    refine join_ (σ := Value × Addr) 6 (dB 15 4046) (fun s_ => [(19, s_.1), (24, .string (rdOf ByteArray.empty y481 (ji8))), (23, .pointer (some (s_.2.add ((ji8)).toNat)))]) (fun s_ w' => (Kd.R k37 37 w' w.heap.size (fun _ => True) (.slice Ao21 t472.length co21) t472) ∧ (Kd.R Kd.string 9 w' w.heap.size (fun _ => True) s_.1 y481) ∧ (∃ c_, (s_.1 : Value) = .slice (some s_.2) y481.length c_) ∧ (w'.heap[gb476]? = some (.cells #[.string (⟨#[71, 69, 84]⟩ : ByteArray), .string t468, .int .i64 t469, .string t470, .int .i64 t471, .slice Ao21 t472.length co21, .string t475] 26 (0, 0))) ∧ (Below w.heap.size w w')) ?_ ?_
                    rotate_left
                    ·intro hJ6_11
                     refine join_ (σ := Value × Addr × Nat) 6 (dB 15 10190) (fun s_ => [(19, s_.1), (8, .pointer (some ⟨s_.2.2, 0, none⟩)), (23, .pointer (some (s_.2.1.add ((ji8)).toNat)))]) (fun s_ w' => (Kd.R k37 37 w' w.heap.size (fun k_ => k_ ≠ s_.2.2) (.slice Ao21 t472.length co21) t472) ∧ (Kd.R Kd.string 9 w' w.heap.size (fun _ => True) s_.1 y481) ∧ (∃ c_, (s_.1 : Value) = .slice (some s_.2.1) y481.length c_) ∧ (w'.heap[gb476]? = some (.cells #[.string (⟨#[71, 69, 84]⟩ : ByteArray), .string t468, .int .i64 t469, .string t470, .int .i64 t471, .slice Ao21 t472.length co21, .string t475] 26 (0, 0))) ∧ (w'.heap[s_.2.2]? = some (.cells #[.string (⟨#[]⟩ : ByteArray), .string (⟨#[]⟩ : ByteArray)] 37 (0, 0))) ∧ (w.heap.size ≤ s_.2.2) ∧ (w.heap.size ≤ s_.2.2) ∧ (gb476 ≠ s_.2.2) ∧ (s_.2.2 ≠ gb476) ∧ (Below w.heap.size w w')) ?_ ?_
                     rotate_left
                     ·intro hJ6_13
                      refine join_ (σ := Value × Addr) 7 (dB 15 927) (fun s_ => [(13, s_.1), (17, .pointer (some (s_.2.add ((ji5)).toNat)))]) (fun s_ w' => (Kd.R k37 37 w' w.heap.size (fun _ => True) (.slice Ao21 t472.length co21) t472) ∧ (Kd.R Kd.string 9 w' w.heap.size (fun _ => True) s_.1 y477) ∧ (∃ c_, (s_.1 : Value) = .slice (some s_.2) y477.length c_) ∧ (w'.heap[gb476]? = some (.cells #[.string (⟨#[71, 69, 84]⟩ : ByteArray), .string t468, .int .i64 t469, .string t470, .int .i64 t471, .slice Ao21 t472.length co21, .string t475] 26 (0, 0))) ∧ (Below w.heap.size w w')) ?_ ?_
                      rotate_left
                      ·intro hJ0
                       refine join_ (σ := Value × Addr) 7 (dB 15 1998) (fun s_ => [(19, s_.1), (23, .pointer (some (s_.2.add ((ji8)).toNat)))]) (fun s_ w' => (Kd.R k37 37 w' w.heap.size (fun _ => True) (.slice Ao21 t472.length co21) t472) ∧ (Kd.R Kd.string 9 w' w.heap.size (fun _ => True) s_.1 y481) ∧ (∃ c_, (s_.1 : Value) = .slice (some s_.2) y481.length c_) ∧ (w'.heap[gb476]? = some (.cells #[.string (⟨#[71, 69, 84]⟩ : ByteArray), .string t468, .int .i64 t469, .string t470, .int .i64 t471, .slice Ao21 t472.length co21, .string t475] 26 (0, 0))) ∧ (Below w.heap.size w w')) ?_ ?_
                       rotate_left
                       ·intro hJ6
                        refine join_ (σ := Nat) 8 (dB 15 9102) (fun s_ => [(8, .pointer (some ⟨s_, 0, none⟩))]) (fun s_ w' => (Kd.R k37 37 w' w.heap.size (fun k_ => k_ ≠ s_) (.slice Ao21 t472.length co21) t472) ∧ (w'.heap[gb476]? = some (.cells #[.string (⟨#[71, 69, 84]⟩ : ByteArray), .string t468, .int .i64 t469, .string t470, .int .i64 t471, .slice Ao21 t472.length co21, .string t475] 26 (0, 0))) ∧ (w'.heap[s_]? = some (.cells #[.string (⟨#[]⟩ : ByteArray), .string (⟨#[]⟩ : ByteArray)] 37 (0, 0))) ∧ (w.heap.size ≤ s_) ∧ (w.heap.size ≤ s_) ∧ (gb476 ≠ s_) ∧ (s_ ≠ gb476) ∧ (Below w.heap.size w w')) ?_ ?_
                        rotate_left
                        ·intro hJ13
                         refine three_ (i := 0) (j := 6) (k := 13) (Ni := some 13) (Nj := some 19) (Nk := some 8) (dB 15 911) (dB 15 974) (dB 15 9102) rfl rfl rfl rfl rfl rfl (three_of HT_.out (by kernel_rfl)) (by decide) (by decide) (by decide) (fun K hK => ?_) (fun K hK => ?_) (fun K hK => ?_)
                         ·skip
                          refine Kd.R_lit_step Kd.string _ 9 ?hg (N := 13) ?hd (xs := ([(⟨#[65, 117, 116, 104, 111, 114, 105, 122, 97, 116, 105, 111, 110]⟩ : ByteArray), (⟨#[67, 79, 79, 75, 73, 69]⟩ : ByteArray), (⟨#[114, 97, 110, 103, 101]⟩ : ByteArray), (⟨#[67, 97, 99, 104, 101, 45, 67, 111, 110, 116, 114, 111, 108]⟩ : ByteArray), (⟨#[99, 97, 99, 104, 101, 45, 99, 111, 110, 116, 114, 111, 108]⟩ : ByteArray), (⟨#[88]⟩ : ByteArray)] : List ByteArray)) (inner := [.string (⟨#[65, 117, 116, 104, 111, 114, 105, 122, 97, 116, 105, 111, 110]⟩ : ByteArray), .string (⟨#[67, 79, 79, 75, 73, 69]⟩ : ByteArray), .string (⟨#[114, 97, 110, 103, 101]⟩ : ByteArray), .string (⟨#[67, 97, 99, 104, 101, 45, 67, 111, 110, 116, 114, 111, 108]⟩ : ByteArray), .string (⟨#[99, 97, 99, 104, 101, 45, 99, 111, 110, 116, 114, 111, 108]⟩ : ByteArray), .string (⟨#[88]⟩ : ByteArray)]) (ok := fun _ => True) (okp := fun _ => True) ?hr ?hp (fun _ hk => hk) trivial (Below.refl _ _) (Nat.le_refl _) (by simp) ?_; (case hd => rfl); (case hg => rfl); (case hr => exact zG); (case hp => exact (Reps.one (zY (⟨#[65, 117, 116, 104, 111, 114, 105, 122, 97, 116, 105, 111, 110]⟩ : ByteArray)) (Reps.one (zY (⟨#[67, 79, 79, 75, 73, 69]⟩ : ByteArray)) (Reps.one (zY (⟨#[114, 97, 110, 103, 101]⟩ : ByteArray)) (Reps.one (zY (⟨#[67, 97, 99, 104, 101, 45, 67, 111, 110, 116, 114, 111, 108]⟩ : ByteArray)) (Reps.one (zY (⟨#[99, 97, 99, 104, 101, 45, 99, 111, 110, 116, 114, 111, 108]⟩ : ByteArray)) (Reps.one (zY (⟨#[88]⟩ : ByteArray)) (Reps.none _ _))))))))
                          intro v478 w24 ho25 hb hg_ hnew_; clear hg_ hnew_
                          (first | rw [← Ny477.out] at ho25 | (simp only [Int.reduceToNat] at ho25; rw [← Ny477.out] at ho25))
                          have n0_ := aM (Kd.R_below (zO HO474.out) hb); have n1_ := aM (Kd.R_lower ho25 (below_size zB)); have n2_ := aM (zX BK476.out hb); have n3_ := aM (below_step zB hb); clear HO474 BK476 HB; have HO474 := n0_; have HO479 := n1_; have BK476 := n2_; have HB := n3_; clear n0_ n1_ n2_ n3_; clear hb ho25; obtain ⟨Ao26, co26, eo26⟩ := Kd.R_slice HO479.out; subst eo26; obtain ⟨ado26, fo26, _⟩ := Kd.at_string (Kd.R_reads' HO479.out).2.2 0 (by decide) (by rw [Ny477.out]; simp); cases fo26
                          refine hK.out _ _ trivial (fun hHeld => ?_)
                          clear hK K
                          refine norm_ (a' := ?_) ?_ ?_
                          rotate_left
                          ·show Act.put _ (some 13) _ = _
                           exact zP
                          refine pure_ (i := 4) (N := some 17) (v := ?_) (a' := ?_) (dB 15 927) rfl rfl (zT HT_.out) (fun _ _ _ h => h) (Or.inl ⟨by rfl, ?_⟩) ?_ ?_
                          rotate_left
                          ·intro w'; go_simp; (with_reducible rfl)
                          rotate_left
                          ·exact zP
                          exact norm_ zU (hJ0 (.slice (some ado26) y477.length co26, ado26) _ ⟨(zO HO474.out), (zO HO479.out), ⟨_, rfl⟩, (zK BK476.out), zB⟩)
                         ·skip
                          refine Kd.R_lit_step Kd.string _ 9 ?hg (N := 19) ?hd (xs := ([(⟨#[]⟩ : ByteArray), (⟨#[110, 111, 45, 115, 116, 111, 114, 101]⟩ : ByteArray), (⟨#[97, 44, 32, 78, 111, 45, 83, 116, 111, 114, 101]⟩ : ByteArray), (⟨#[110, 111, 45, 99, 97, 99, 104, 101]⟩ : ByteArray), (⟨#[110, 111, 45, 115, 116, 111, 114, 101, 61, 49]⟩ : ByteArray)] : List ByteArray)) (inner := [.string (⟨#[]⟩ : ByteArray), .string (⟨#[110, 111, 45, 115, 116, 111, 114, 101]⟩ : ByteArray), .string (⟨#[97, 44, 32, 78, 111, 45, 83, 116, 111, 114, 101]⟩ : ByteArray), .string (⟨#[110, 111, 45, 99, 97, 99, 104, 101]⟩ : ByteArray), .string (⟨#[110, 111, 45, 115, 116, 111, 114, 101, 61, 49]⟩ : ByteArray)]) (ok := fun _ => True) (okp := fun _ => True) ?hr ?hp (fun _ hk => hk) trivial (Below.refl _ _) (Nat.le_refl _) (by simp) ?_; (case hd => rfl); (case hg => rfl); (case hr => exact zG); (case hp => exact (Reps.one (zY (⟨#[]⟩ : ByteArray)) (Reps.one (zY (⟨#[110, 111, 45, 115, 116, 111, 114, 101]⟩ : ByteArray)) (Reps.one (zY (⟨#[97, 44, 32, 78, 111, 45, 83, 116, 111, 114, 101]⟩ : ByteArray)) (Reps.one (zY (⟨#[110, 111, 45, 99, 97, 99, 104, 101]⟩ : ByteArray)) (Reps.one (zY (⟨#[110, 111, 45, 115, 116, 111, 114, 101, 61, 49]⟩ : ByteArray)) (Reps.none _ _)))))))
                          intro v482 w24 ho25 hb hg_ hnew_; clear hg_ hnew_
                          (first | rw [← Ny481.out] at ho25 | (simp only [Int.reduceToNat] at ho25; rw [← Ny481.out] at ho25))
                          have n0_ := aM (Kd.R_below (zO HO474.out) hb); have n1_ := aM (Kd.R_lower ho25 (below_size zB)); have n2_ := aM (zX BK476.out hb); have n3_ := aM (below_step zB hb); clear HO474 BK476 HB; have HO474 := n0_; have HO483 := n1_; have BK476 := n2_; have HB := n3_; clear n0_ n1_ n2_ n3_; clear hb ho25; obtain ⟨Ao26, co26, eo26⟩ := Kd.R_slice HO483.out; subst eo26; obtain ⟨ado26, fo26, _⟩ := Kd.at_string (Kd.R_reads' HO483.out).2.2 0 (by decide) (by rw [Ny481.out]; simp); cases fo26
                          refine hK.out _ _ trivial (fun hHeld => ?_)
                          clear hK K
                          refine norm_ (a' := ?_) ?_ ?_
                          rotate_left
                          ·show Act.put _ (some 19) _ = _
                           exact zP
                          refine pure_ (i := 10) (N := some 23) (v := ?_) (a' := ?_) (dB 15 1998) rfl rfl (zT HT_.out) (fun _ _ _ h => h) (Or.inl ⟨by rfl, ?_⟩) ?_ ?_
                          rotate_left
                          ·intro w'; go_simp; (with_reducible rfl)
                          rotate_left
                          ·exact zP
                          exact norm_ zU (hJ6 (.slice (some ado26) y481.length co26, ado26) _ ⟨(zO HO474.out), (zO HO483.out), ⟨_, rfl⟩, (zK BK476.out), zB⟩)
                         ·skip
                          refine box_step ?hg (N := 8) ?hd (cs := #[.string (⟨#[]⟩ : ByteArray), .string (⟨#[]⟩ : ByteArray)]) (t := 37) ?hr ?_; (case hd => rfl); (case hg => rfl); (case hr => exact zG)
                          intro gb485 hg w24 hbox hb; have n0_ := aM (Kd.R_below (Kd.R_elderB (zO HO474.out) gb485 (Nat.le_of_eq hg.symm)) hb); have n1_ := aM (zX BK476.out hb); have n2_ := aM (below_step zB hb); have n3_ := aM (hbox); have n4_ := aM ((by rw [hg]; exact (below_size zB) : w.heap.size ≤ gb485)); have n5_ := aM ((by rw [hg]; exact (below_size zB) : w.heap.size ≤ gb485)); have n6_ := aM ((by rw [hg]; exact Nat.ne_of_lt (blk_lt (zK BK476.out)) : gb476 ≠ gb485)); have n7_ := aM ((by rw [hg]; exact Nat.ne_of_gt (blk_lt (zK BK476.out)) : gb485 ≠ gb476)); clear HO474 BK476 HB; have HO474 := n0_; have BK476 := n1_; have HB := n2_; have BK485 := n3_; have GW485 := n4_; have GE485 := n5_; have NB476_485 := n6_; have NB485_476 := n7_; clear n0_ n1_ n2_ n3_ n4_ n5_ n6_ n7_; clear hb hbox hg
                          refine hK.out _ _ trivial (fun hHeld => ?_)
                          clear hK K
                          refine norm_ (a' := ?_) ?_ ?_
                          rotate_left
                          ·show Act.put _ (some 8) _ = _
                           exact zP
                          exact norm_ zU (hJ13 (gb485) _ ⟨(by (with_reducible repeat (first | apply rA | apply rN | apply rD)); exact Kd.R_mono HO474.out (fun _ hk => hk.2)), (zK BK476.out), (zK BK485.out), GW485.out, GE485.out, NB476_485.out, NB485_476.out, zB⟩)
                        ·skip
                         rintro gb485 w25 ⟨h0_, h1_, h2_, h3_, h4_, h5_, h6_, h7_⟩
                         have n0_ : Aside0 (Kd.R k37 37 w25 w.heap.size (fun k_ => k_ ≠ gb485) (.slice Ao21 t472.length co21) t472) := ⟨h0_⟩; have n1_ : Aside0 (w25.heap[gb476]? = some (.cells #[.string (⟨#[71, 69, 84]⟩ : ByteArray), .string t468, .int .i64 t469, .string t470, .int .i64 t471, .slice Ao21 t472.length co21, .string t475] 26 (0, 0))) := ⟨h1_⟩; have n2_ : Aside0 (w25.heap[gb485]? = some (.cells #[.string (⟨#[]⟩ : ByteArray), .string (⟨#[]⟩ : ByteArray)] 37 (0, 0))) := ⟨h2_⟩; have n3_ : Aside0 (w.heap.size ≤ gb485) := ⟨h3_⟩; have n4_ : Aside0 (w.heap.size ≤ gb485) := ⟨h4_⟩; have n5_ : Aside0 (gb476 ≠ gb485) := ⟨h5_⟩; have n6_ : Aside0 (gb485 ≠ gb476) := ⟨h6_⟩; have n7_ : Aside0 (Below w.heap.size w w25) := ⟨h7_⟩; clear HO474 BK476 HB h0_ h1_ h2_ h3_ h4_ h5_ h6_ h7_; have HO474 := n0_; have BK476 := n1_; have BK485 := n2_; have GW485 := n3_; have GE485 := n4_; have NB476_485 := n5_; have NB485_476 := n6_; have HB := n7_; clear n0_ n1_ n2_ n3_ n4_ n5_ n6_ n7_; have hHeld := trivial
                         refine norm_ (a' := ?_) ?_ ?_
                         rotate_left
                         ·simp only [putAll, Act.put, List.setIfInBounds_toArray, List.set_cons_zero, List.set_cons_succ]; rfl
                         refine two_ (i := 0) (j := 6) (Ni := some 13) (Nj := some 19) (dB 15 9103) (dB 15 9166) rfl rfl rfl rfl (two_of HT_.out (by kernel_rfl)) (by decide) (by decide) (fun K hK => ?_) (fun K hK => ?_)
                         ·skip
                          refine Kd.R_lit_step Kd.string _ 9 ?hg (N := 13) ?hd (xs := ([(⟨#[65, 117, 116, 104, 111, 114, 105, 122, 97, 116, 105, 111, 110]⟩ : ByteArray), (⟨#[67, 79, 79, 75, 73, 69]⟩ : ByteArray), (⟨#[114, 97, 110, 103, 101]⟩ : ByteArray), (⟨#[67, 97, 99, 104, 101, 45, 67, 111, 110, 116, 114, 111, 108]⟩ : ByteArray), (⟨#[99, 97, 99, 104, 101, 45, 99, 111, 110, 116, 114, 111, 108]⟩ : ByteArray), (⟨#[88]⟩ : ByteArray)] : List ByteArray)) (inner := [.string (⟨#[65, 117, 116, 104, 111, 114, 105, 122, 97, 116, 105, 111, 110]⟩ : ByteArray), .string (⟨#[67, 79, 79, 75, 73, 69]⟩ : ByteArray), .string (⟨#[114, 97, 110, 103, 101]⟩ : ByteArray), .string (⟨#[67, 97, 99, 104, 101, 45, 67, 111, 110, 116, 114, 111, 108]⟩ : ByteArray), .string (⟨#[99, 97, 99, 104, 101, 45, 99, 111, 110, 116, 114, 111, 108]⟩ : ByteArray), .string (⟨#[88]⟩ : ByteArray)]) (ok := fun _ => True) (okp := fun _ => True) ?hr ?hp (fun _ hk => hk) trivial (Below.refl _ _) (Nat.le_refl _) (by simp) ?_; (case hd => rfl); (case hg => rfl); (case hr => exact zG); (case hp => exact (Reps.one (zY (⟨#[65, 117, 116, 104, 111, 114, 105, 122, 97, 116, 105, 111, 110]⟩ : ByteArray)) (Reps.one (zY (⟨#[67, 79, 79, 75, 73, 69]⟩ : ByteArray)) (Reps.one (zY (⟨#[114, 97, 110, 103, 101]⟩ : ByteArray)) (Reps.one (zY (⟨#[67, 97, 99, 104, 101, 45, 67, 111, 110, 116, 114, 111, 108]⟩ : ByteArray)) (Reps.one (zY (⟨#[99, 97, 99, 104, 101, 45, 99, 111, 110, 116, 114, 111, 108]⟩ : ByteArray)) (Reps.one (zY (⟨#[88]⟩ : ByteArray)) (Reps.none _ _))))))))
                          intro v478 w26 ho27 hb hg_ hnew_; clear hg_ hnew_
                          (first | rw [← Ny477.out] at ho27 | (simp only [Int.reduceToNat] at ho27; rw [← Ny477.out] at ho27))
                          have n0_ := aM (Kd.R_below (zO HO474.out) hb); have n1_ := aM (Kd.R_lower ho27 (below_size zB)); have n2_ := aM (zX BK476.out hb); have n3_ := aM (zX BK485.out hb); have n4_ := aM (below_step zB hb); clear HO474 BK476 BK485 HB; have HO474 := n0_; have HO479 := n1_; have BK476 := n2_; have BK485 := n3_; have HB := n4_; clear n0_ n1_ n2_ n3_ n4_; clear hb ho27; obtain ⟨Ao28, co28, eo28⟩ := Kd.R_slice HO479.out; subst eo28; obtain ⟨ado28, fo28, _⟩ := Kd.at_string (Kd.R_reads' HO479.out).2.2 0 (by decide) (by rw [Ny477.out]; simp); cases fo28
                          refine hK.out _ _ trivial (fun hHeld => ?_)
                          clear hK K
                          refine norm_ (a' := ?_) ?_ ?_
                          rotate_left
                          ·show Act.put _ (some 13) _ = _
                           exact zP
                          refine pure_ (i := 4) (N := some 17) (v := ?_) (a' := ?_) (dB 15 9119) rfl rfl (zT HT_.out) (fun _ _ _ h => h) (Or.inl ⟨by rfl, ?_⟩) ?_ ?_
                          rotate_left
                          ·intro w'; go_simp; (with_reducible rfl)
                          rotate_left
                          ·exact zP
                          exact norm_ zU (hJ0_13 (.slice (some ado28) y477.length co28, ado28, gb485) _ ⟨(zO HO474.out), (zO HO479.out), ⟨_, rfl⟩, (zK BK476.out), (zK BK485.out), GW485.out, GE485.out, NB476_485.out, NB485_476.out, zB⟩)
                         ·skip
                          refine Kd.R_lit_step Kd.string _ 9 ?hg (N := 19) ?hd (xs := ([(⟨#[]⟩ : ByteArray), (⟨#[110, 111, 45, 115, 116, 111, 114, 101]⟩ : ByteArray), (⟨#[97, 44, 32, 78, 111, 45, 83, 116, 111, 114, 101]⟩ : ByteArray), (⟨#[110, 111, 45, 99, 97, 99, 104, 101]⟩ : ByteArray), (⟨#[110, 111, 45, 115, 116, 111, 114, 101, 61, 49]⟩ : ByteArray)] : List ByteArray)) (inner := [.string (⟨#[]⟩ : ByteArray), .string (⟨#[110, 111, 45, 115, 116, 111, 114, 101]⟩ : ByteArray), .string (⟨#[97, 44, 32, 78, 111, 45, 83, 116, 111, 114, 101]⟩ : ByteArray), .string (⟨#[110, 111, 45, 99, 97, 99, 104, 101]⟩ : ByteArray), .string (⟨#[110, 111, 45, 115, 116, 111, 114, 101, 61, 49]⟩ : ByteArray)]) (ok := fun _ => True) (okp := fun _ => True) ?hr ?hp (fun _ hk => hk) trivial (Below.refl _ _) (Nat.le_refl _) (by simp) ?_; (case hd => rfl); (case hg => rfl); (case hr => exact zG); (case hp => exact (Reps.one (zY (⟨#[]⟩ : ByteArray)) (Reps.one (zY (⟨#[110, 111, 45, 115, 116, 111, 114, 101]⟩ : ByteArray)) (Reps.one (zY (⟨#[97, 44, 32, 78, 111, 45, 83, 116, 111, 114, 101]⟩ : ByteArray)) (Reps.one (zY (⟨#[110, 111, 45, 99, 97, 99, 104, 101]⟩ : ByteArray)) (Reps.one (zY (⟨#[110, 111, 45, 115, 116, 111, 114, 101, 61, 49]⟩ : ByteArray)) (Reps.none _ _)))))))
                          intro v482 w26 ho27 hb hg_ hnew_; clear hg_ hnew_
                          (first | rw [← Ny481.out] at ho27 | (simp only [Int.reduceToNat] at ho27; rw [← Ny481.out] at ho27))
                          have n0_ := aM (Kd.R_below (zO HO474.out) hb); have n1_ := aM (Kd.R_lower ho27 (below_size zB)); have n2_ := aM (zX BK476.out hb); have n3_ := aM (zX BK485.out hb); have n4_ := aM (below_step zB hb); clear HO474 BK476 BK485 HB; have HO474 := n0_; have HO483 := n1_; have BK476 := n2_; have BK485 := n3_; have HB := n4_; clear n0_ n1_ n2_ n3_ n4_; clear hb ho27; obtain ⟨Ao28, co28, eo28⟩ := Kd.R_slice HO483.out; subst eo28; obtain ⟨ado28, fo28, _⟩ := Kd.at_string (Kd.R_reads' HO483.out).2.2 0 (by decide) (by rw [Ny481.out]; simp); cases fo28
                          refine hK.out _ _ trivial (fun hHeld => ?_)
                          clear hK K
                          refine norm_ (a' := ?_) ?_ ?_
                          rotate_left
                          ·show Act.put _ (some 19) _ = _
                           exact zP
                          refine pure_ (i := 10) (N := some 23) (v := ?_) (a' := ?_) (dB 15 10190) rfl rfl (zT HT_.out) (fun _ _ _ h => h) (Or.inl ⟨by rfl, ?_⟩) ?_ ?_
                          rotate_left
                          ·intro w'; go_simp; (with_reducible rfl)
                          rotate_left
                          ·exact zP
                          exact norm_ zU (hJ6_13 (.slice (some ado28) y481.length co28, ado28, gb485) _ ⟨(zO HO474.out), (zO HO483.out), ⟨_, rfl⟩, (zK BK476.out), (zK BK485.out), GW485.out, GE485.out, NB476_485.out, NB485_476.out, zB⟩)
                       ·skip
                        rintro ⟨v482, adz_v482⟩ w27 ⟨h0_, h1_, h2_, h3_, h4_⟩
                        have n0_ : Aside0 (Kd.R k37 37 w27 w.heap.size (fun _ => True) (.slice Ao21 t472.length co21) t472) := ⟨h0_⟩; have n1_ : Aside0 (Kd.R Kd.string 9 w27 w.heap.size (fun _ => True) v482 y481) := ⟨h1_⟩; have n2_ : Aside0 (∃ c_, (v482 : Value) = .slice (some adz_v482) y481.length c_) := ⟨h2_⟩; have n3_ : Aside0 (w27.heap[gb476]? = some (.cells #[.string (⟨#[71, 69, 84]⟩ : ByteArray), .string t468, .int .i64 t469, .string t470, .int .i64 t471, .slice Ao21 t472.length co21, .string t475] 26 (0, 0))) := ⟨h3_⟩; have n4_ : Aside0 (Below w.heap.size w w27) := ⟨h4_⟩; clear HO474 BK476 HB h0_ h1_ h2_ h3_ h4_; have HO474 := n0_; have HO483 := n1_; have HA_HO483 := n2_; have BK476 := n3_; have HB := n4_; clear n0_ n1_ n2_ n3_ n4_; have hHeld := trivial; obtain ⟨co28, eo28⟩ := HA_HO483.out; clear HA_HO483; subst eo28
                        refine norm_ (a' := ?_) ?_ ?_
                        rotate_left
                        ·simp only [putAll, Act.put, List.setIfInBounds_toArray, List.set_cons_zero, List.set_cons_succ]; rfl
                        refine three_ (i := 0) (j := 11) (k := 13) (Ni := some 13) (Nj := some 24) (Nk := some 8) (dB 15 1999) (dB 15 4046) (dB 15 10190) rfl rfl rfl rfl rfl rfl (three_of HT_.out (by kernel_rfl)) (by decide) (by decide) (by decide) (fun K hK => ?_) (fun K hK => ?_) (fun K hK => ?_)
                        ·skip
                         refine Kd.R_lit_step Kd.string _ 9 ?hg (N := 13) ?hd (xs := ([(⟨#[65, 117, 116, 104, 111, 114, 105, 122, 97, 116, 105, 111, 110]⟩ : ByteArray), (⟨#[67, 79, 79, 75, 73, 69]⟩ : ByteArray), (⟨#[114, 97, 110, 103, 101]⟩ : ByteArray), (⟨#[67, 97, 99, 104, 101, 45, 67, 111, 110, 116, 114, 111, 108]⟩ : ByteArray), (⟨#[99, 97, 99, 104, 101, 45, 99, 111, 110, 116, 114, 111, 108]⟩ : ByteArray), (⟨#[88]⟩ : ByteArray)] : List ByteArray)) (inner := [.string (⟨#[65, 117, 116, 104, 111, 114, 105, 122, 97, 116, 105, 111, 110]⟩ : ByteArray), .string (⟨#[67, 79, 79, 75, 73, 69]⟩ : ByteArray), .string (⟨#[114, 97, 110, 103, 101]⟩ : ByteArray), .string (⟨#[67, 97, 99, 104, 101, 45, 67, 111, 110, 116, 114, 111, 108]⟩ : ByteArray), .string (⟨#[99, 97, 99, 104, 101, 45, 99, 111, 110, 116, 114, 111, 108]⟩ : ByteArray), .string (⟨#[88]⟩ : ByteArray)]) (ok := fun _ => True) (okp := fun _ => True) ?hr ?hp (fun _ hk => hk) trivial (Below.refl _ _) (Nat.le_refl _) (by simp) ?_; (case hd => rfl); (case hg => rfl); (case hr => exact zG); (case hp => exact (Reps.one (zY (⟨#[65, 117, 116, 104, 111, 114, 105, 122, 97, 116, 105, 111, 110]⟩ : ByteArray)) (Reps.one (zY (⟨#[67, 79, 79, 75, 73, 69]⟩ : ByteArray)) (Reps.one (zY (⟨#[114, 97, 110, 103, 101]⟩ : ByteArray)) (Reps.one (zY (⟨#[67, 97, 99, 104, 101, 45, 67, 111, 110, 116, 114, 111, 108]⟩ : ByteArray)) (Reps.one (zY (⟨#[99, 97, 99, 104, 101, 45, 99, 111, 110, 116, 114, 111, 108]⟩ : ByteArray)) (Reps.one (zY (⟨#[88]⟩ : ByteArray)) (Reps.none _ _))))))))
                         intro v478 w29 ho30 hb hg_ hnew_; clear hg_ hnew_
                         (first | rw [← Ny477.out] at ho30 | (simp only [Int.reduceToNat] at ho30; rw [← Ny477.out] at ho30))
                         have n0_ := aM (Kd.R_below (zO HO474.out) hb); have n1_ := aM (Kd.R_elder' (zO HO483.out) (Kd.R_base ho30) hb); have n2_ := aM (Kd.R_lower (Kd.R_new' ho30 (Kd.R_lt (zO HO483.out))) (below_size zB)); have n3_ := aM (zX BK476.out hb); have n4_ := aM (below_step zB hb); clear HO474 HO483 BK476 HB; have HO474 := n0_; have HO483 := n1_; have HO479 := n2_; have BK476 := n3_; have HB := n4_; clear n0_ n1_ n2_ n3_ n4_; clear hb ho30; obtain ⟨Ao31, co31, eo31⟩ := Kd.R_slice HO479.out; subst eo31; obtain ⟨ado31, fo31, _⟩ := Kd.at_string (Kd.R_reads' HO479.out).2.2 0 (by decide) (by rw [Ny477.out]; simp); cases fo31
                         refine hK.out _ _ trivial (fun hHeld => ?_)
                         clear hK K
                         refine norm_ (a' := ?_) ?_ ?_
                         rotate_left
                         ·show Act.put _ (some 13) _ = _
                          exact zP
                         refine pure_ (i := 4) (N := some 17) (v := ?_) (a' := ?_) (dB 15 2015) rfl rfl (zT HT_.out) (fun _ _ _ h => h) (Or.inl ⟨by rfl, ?_⟩) ?_ ?_
                         rotate_left
                         ·intro w'; go_simp; (with_reducible rfl)
                         rotate_left
                         ·exact zP
                         exact norm_ zU (hJ0_6 (.slice (some ado31) y477.length co31, ado31, .slice (some adz_v482) y481.length co28, adz_v482) _ ⟨(zO HO474.out), (by (with_reducible repeat (first | apply rA | apply rN | apply rD)); exact Kd.R_mono HO479.out (fun _ hk => hk.2)), (by (with_reducible repeat (first | apply rA | apply rN | apply rD)); exact Kd.R_mono HO483.out (fun _ hk => hk.2)), ⟨_, rfl⟩, ⟨_, rfl⟩, (zK BK476.out), zB⟩)
                        ·skip
                         (have p484 : 0 ≤ ((ji8) : Int) := of_decide_eq_true zA; have q484 : (ji8) < (y481.length : Int) := of_decide_eq_true zA; obtain ⟨ad484, e484, hx484_0⟩ := Kd.at_string (Kd.R_reads' HO483.out).2.2 (ji8) p484 q484; obtain rfl : adz_v482 = ad484 := (by injection e484))
                         refine value_ (w1 := ?_) (v := ?_) (by rfl) rfl ?_ ?_
                         rotate_left 2
                         ·go_simp
                          constructor
                          ·rfl
                          ·rfl
                         clear hx484_0
                         refine hK.out _ _ trivial (fun hHeld => ?_)
                         clear hK K
                         refine norm_ (a' := ?_) ?_ ?_
                         rotate_left
                         ·show Act.put _ (some 24) _ = _
                          exact zP
                         exact norm_ zU (hJ6_11 (.slice (some adz_v482) y481.length co28, adz_v482) _ ⟨(zO HO474.out), (zO HO483.out), ⟨_, rfl⟩, (zK BK476.out), zB⟩)
                        ·skip
                         refine box_step ?hg (N := 8) ?hd (cs := #[.string (⟨#[]⟩ : ByteArray), .string (⟨#[]⟩ : ByteArray)]) (t := 37) ?hr ?_; (case hd => rfl); (case hg => rfl); (case hr => exact zG)
                         intro gb485 hg w29 hbox hb; have n0_ := aM (Kd.R_below (Kd.R_elderB (zO HO474.out) gb485 (Nat.le_of_eq hg.symm)) hb); have n1_ := aM (Kd.R_below (zO HO483.out) hb); have n2_ := aM (zX BK476.out hb); have n3_ := aM (below_step zB hb); have n4_ := aM (hbox); have n5_ := aM ((by rw [hg]; exact (below_size zB) : w.heap.size ≤ gb485)); have n6_ := aM ((by rw [hg]; exact (below_size zB) : w.heap.size ≤ gb485)); have n7_ := aM ((by rw [hg]; exact Nat.ne_of_lt (blk_lt (zK BK476.out)) : gb476 ≠ gb485)); have n8_ := aM ((by rw [hg]; exact Nat.ne_of_gt (blk_lt (zK BK476.out)) : gb485 ≠ gb476)); clear HO474 HO483 BK476 HB; have HO474 := n0_; have HO483 := n1_; have BK476 := n2_; have HB := n3_; have BK485 := n4_; have GW485 := n5_; have GE485 := n6_; have NB476_485 := n7_; have NB485_476 := n8_; clear n0_ n1_ n2_ n3_ n4_ n5_ n6_ n7_ n8_; clear hb hbox hg
                         refine hK.out _ _ trivial (fun hHeld => ?_)
                         clear hK K
                         refine norm_ (a' := ?_) ?_ ?_
                         rotate_left
                         ·show Act.put _ (some 8) _ = _
                          exact zP
                         exact norm_ zU (hJ6_13 (.slice (some adz_v482) y481.length co28, adz_v482, gb485) _ ⟨(by (with_reducible repeat (first | apply rA | apply rN | apply rD)); exact Kd.R_mono HO474.out (fun _ hk => hk.2)), (zO HO483.out), ⟨_, rfl⟩, (zK BK476.out), (zK BK485.out), GW485.out, GE485.out, NB476_485.out, NB485_476.out, zB⟩)
                      ·skip
                       rintro ⟨v478, adz_v478⟩ w27 ⟨h0_, h1_, h2_, h3_, h4_⟩
                       have n0_ : Aside0 (Kd.R k37 37 w27 w.heap.size (fun _ => True) (.slice Ao21 t472.length co21) t472) := ⟨h0_⟩; have n1_ : Aside0 (Kd.R Kd.string 9 w27 w.heap.size (fun _ => True) v478 y477) := ⟨h1_⟩; have n2_ : Aside0 (∃ c_, (v478 : Value) = .slice (some adz_v478) y477.length c_) := ⟨h2_⟩; have n3_ : Aside0 (w27.heap[gb476]? = some (.cells #[.string (⟨#[71, 69, 84]⟩ : ByteArray), .string t468, .int .i64 t469, .string t470, .int .i64 t471, .slice Ao21 t472.length co21, .string t475] 26 (0, 0))) := ⟨h3_⟩; have n4_ : Aside0 (Below w.heap.size w w27) := ⟨h4_⟩; clear HO474 BK476 HB h0_ h1_ h2_ h3_ h4_; have HO474 := n0_; have HO479 := n1_; have HA_HO479 := n2_; have BK476 := n3_; have HB := n4_; clear n0_ n1_ n2_ n3_ n4_; have hHeld := trivial; obtain ⟨co28, eo28⟩ := HA_HO479.out; clear HA_HO479; subst eo28
                       refine norm_ (a' := ?_) ?_ ?_
                       rotate_left
                       ·simp only [putAll, Act.put, List.setIfInBounds_toArray, List.set_cons_zero, List.set_cons_succ]; rfl
                       refine three_ (i := 5) (j := 6) (k := 13) (Ni := some 18) (Nj := some 19) (Nk := some 8) (dB 15 959) (dB 15 991) (dB 15 9119) rfl rfl rfl rfl rfl rfl (three_of HT_.out (by kernel_rfl)) (by decide) (by decide) (by decide) (fun K hK => ?_) (fun K hK => ?_) (fun K hK => ?_)
                       ·skip
                        (have p480 : 0 ≤ ((ji5) : Int) := of_decide_eq_true zA; have q480 : (ji5) < (y477.length : Int) := of_decide_eq_true zA; obtain ⟨ad480, e480, hx480_0⟩ := Kd.at_string (Kd.R_reads' HO479.out).2.2 (ji5) p480 q480; obtain rfl : adz_v478 = ad480 := (by injection e480))
                        refine value_ (w1 := ?_) (v := ?_) (by rfl) rfl ?_ ?_
                        rotate_left 2
                        ·go_simp
                         constructor
                         ·rfl
                         ·rfl
                        clear hx480_0
                        refine hK.out _ _ trivial (fun hHeld => ?_)
                        clear hK K
                        refine norm_ (a' := ?_) ?_ ?_
                        rotate_left
                        ·show Act.put _ (some 18) _ = _
                         exact zP
                        exact norm_ zU (hJ0_5 (.slice (some adz_v478) y477.length co28, adz_v478) _ ⟨(zO HO474.out), (zO HO479.out), ⟨_, rfl⟩, (zK BK476.out), zB⟩)
                       ·skip
                        refine Kd.R_lit_step Kd.string _ 9 ?hg (N := 19) ?hd (xs := ([(⟨#[]⟩ : ByteArray), (⟨#[110, 111, 45, 115, 116, 111, 114, 101]⟩ : ByteArray), (⟨#[97, 44, 32, 78, 111, 45, 83, 116, 111, 114, 101]⟩ : ByteArray), (⟨#[110, 111, 45, 99, 97, 99, 104, 101]⟩ : ByteArray), (⟨#[110, 111, 45, 115, 116, 111, 114, 101, 61, 49]⟩ : ByteArray)] : List ByteArray)) (inner := [.string (⟨#[]⟩ : ByteArray), .string (⟨#[110, 111, 45, 115, 116, 111, 114, 101]⟩ : ByteArray), .string (⟨#[97, 44, 32, 78, 111, 45, 83, 116, 111, 114, 101]⟩ : ByteArray), .string (⟨#[110, 111, 45, 99, 97, 99, 104, 101]⟩ : ByteArray), .string (⟨#[110, 111, 45, 115, 116, 111, 114, 101, 61, 49]⟩ : ByteArray)]) (ok := fun _ => True) (okp := fun _ => True) ?hr ?hp (fun _ hk => hk) trivial (Below.refl _ _) (Nat.le_refl _) (by simp) ?_; (case hd => rfl); (case hg => rfl); (case hr => exact zG); (case hp => exact (Reps.one (zY (⟨#[]⟩ : ByteArray)) (Reps.one (zY (⟨#[110, 111, 45, 115, 116, 111, 114, 101]⟩ : ByteArray)) (Reps.one (zY (⟨#[97, 44, 32, 78, 111, 45, 83, 116, 111, 114, 101]⟩ : ByteArray)) (Reps.one (zY (⟨#[110, 111, 45, 99, 97, 99, 104, 101]⟩ : ByteArray)) (Reps.one (zY (⟨#[110, 111, 45, 115, 116, 111, 114, 101, 61, 49]⟩ : ByteArray)) (Reps.none _ _)))))))
                        intro v482 w29 ho30 hb hg_ hnew_; clear hg_ hnew_
                        (first | rw [← Ny481.out] at ho30 | (simp only [Int.reduceToNat] at ho30; rw [← Ny481.out] at ho30))
                        have n0_ := aM (Kd.R_below (zO HO474.out) hb); have n1_ := aM (Kd.R_elder' (zO HO479.out) (Kd.R_base ho30) hb); have n2_ := aM (Kd.R_lower (Kd.R_new' ho30 (Kd.R_lt (zO HO479.out))) (below_size zB)); have n3_ := aM (zX BK476.out hb); have n4_ := aM (below_step zB hb); clear HO474 HO479 BK476 HB; have HO474 := n0_; have HO479 := n1_; have HO483 := n2_; have BK476 := n3_; have HB := n4_; clear n0_ n1_ n2_ n3_ n4_; clear hb ho30; obtain ⟨Ao31, co31, eo31⟩ := Kd.R_slice HO483.out; subst eo31; obtain ⟨ado31, fo31, _⟩ := Kd.at_string (Kd.R_reads' HO483.out).2.2 0 (by decide) (by rw [Ny481.out]; simp); cases fo31
                        refine hK.out _ _ trivial (fun hHeld => ?_)
                        clear hK K
                        refine norm_ (a' := ?_) ?_ ?_
                        rotate_left
                        ·show Act.put _ (some 19) _ = _
                         exact zP
                        refine pure_ (i := 10) (N := some 23) (v := ?_) (a' := ?_) (dB 15 2015) rfl rfl (zT HT_.out) (fun _ _ _ h => h) (Or.inl ⟨by rfl, ?_⟩) ?_ ?_
                        rotate_left
                        ·intro w'; go_simp; (with_reducible rfl)
                        rotate_left
                        ·exact zP
                        exact norm_ zU (hJ0_6 (.slice (some adz_v478) y477.length co28, adz_v478, .slice (some ado31) y481.length co31, ado31) _ ⟨(zO HO474.out), (by (with_reducible repeat (first | apply rA | apply rN | apply rD)); exact Kd.R_mono HO479.out (fun _ hk => hk.2)), (by (with_reducible repeat (first | apply rA | apply rN | apply rD)); exact Kd.R_mono HO483.out (fun _ hk => hk.2)), ⟨_, rfl⟩, ⟨_, rfl⟩, (zK BK476.out), zB⟩)
                       ·skip
                        refine box_step ?hg (N := 8) ?hd (cs := #[.string (⟨#[]⟩ : ByteArray), .string (⟨#[]⟩ : ByteArray)]) (t := 37) ?hr ?_; (case hd => rfl); (case hg => rfl); (case hr => exact zG)
                        intro gb485 hg w29 hbox hb; have n0_ := aM (Kd.R_below (Kd.R_elderB (zO HO474.out) gb485 (Nat.le_of_eq hg.symm)) hb); have n1_ := aM (Kd.R_below (zO HO479.out) hb); have n2_ := aM (zX BK476.out hb); have n3_ := aM (below_step zB hb); have n4_ := aM (hbox); have n5_ := aM ((by rw [hg]; exact (below_size zB) : w.heap.size ≤ gb485)); have n6_ := aM ((by rw [hg]; exact (below_size zB) : w.heap.size ≤ gb485)); have n7_ := aM ((by rw [hg]; exact Nat.ne_of_lt (blk_lt (zK BK476.out)) : gb476 ≠ gb485)); have n8_ := aM ((by rw [hg]; exact Nat.ne_of_gt (blk_lt (zK BK476.out)) : gb485 ≠ gb476)); clear HO474 HO479 BK476 HB; have HO474 := n0_; have HO479 := n1_; have BK476 := n2_; have HB := n3_; have BK485 := n4_; have GW485 := n5_; have GE485 := n6_; have NB476_485 := n7_; have NB485_476 := n8_; clear n0_ n1_ n2_ n3_ n4_ n5_ n6_ n7_ n8_; clear hb hbox hg
                        refine hK.out _ _ trivial (fun hHeld => ?_)
                        clear hK K
                        refine norm_ (a' := ?_) ?_ ?_
                        rotate_left
                        ·show Act.put _ (some 8) _ = _
                         exact zP
                        exact norm_ zU (hJ0_13 (.slice (some adz_v478) y477.length co28, adz_v478, gb485) _ ⟨(by (with_reducible repeat (first | apply rA | apply rN | apply rD)); exact Kd.R_mono HO474.out (fun _ hk => hk.2)), (zO HO479.out), ⟨_, rfl⟩, (zK BK476.out), (zK BK485.out), GW485.out, GE485.out, NB476_485.out, NB485_476.out, zB⟩)
                     ·skip
                      rintro ⟨v482, adz_v482, gb485⟩ w28 ⟨h0_, h1_, h2_, h3_, h4_, h5_, h6_, h7_, h8_, h9_⟩
                      have n0_ : Aside0 (Kd.R k37 37 w28 w.heap.size (fun k_ => k_ ≠ gb485) (.slice Ao21 t472.length co21) t472) := ⟨h0_⟩; have n1_ : Aside0 (Kd.R Kd.string 9 w28 w.heap.size (fun _ => True) v482 y481) := ⟨h1_⟩; have n2_ : Aside0 (∃ c_, (v482 : Value) = .slice (some adz_v482) y481.length c_) := ⟨h2_⟩; have n3_ : Aside0 (w28.heap[gb476]? = some (.cells #[.string (⟨#[71, 69, 84]⟩ : ByteArray), .string t468, .int .i64 t469, .string t470, .int .i64 t471, .slice Ao21 t472.length co21, .string t475] 26 (0, 0))) := ⟨h3_⟩; have n4_ : Aside0 (w28.heap[gb485]? = some (.cells #[.string (⟨#[]⟩ : ByteArray), .string (⟨#[]⟩ : ByteArray)] 37 (0, 0))) := ⟨h4_⟩; have n5_ : Aside0 (w.heap.size ≤ gb485) := ⟨h5_⟩; have n6_ : Aside0 (w.heap.size ≤ gb485) := ⟨h6_⟩; have n7_ : Aside0 (gb476 ≠ gb485) := ⟨h7_⟩; have n8_ : Aside0 (gb485 ≠ gb476) := ⟨h8_⟩; have n9_ : Aside0 (Below w.heap.size w w28) := ⟨h9_⟩; clear HO474 BK476 HB h0_ h1_ h2_ h3_ h4_ h5_ h6_ h7_ h8_ h9_; have HO474 := n0_; have HO483 := n1_; have HA_HO483 := n2_; have BK476 := n3_; have BK485 := n4_; have GW485 := n5_; have GE485 := n6_; have NB476_485 := n7_; have NB485_476 := n8_; have HB := n9_; clear n0_ n1_ n2_ n3_ n4_ n5_ n6_ n7_ n8_ n9_; have hHeld := trivial; obtain ⟨co29, eo29⟩ := HA_HO483.out; clear HA_HO483; subst eo29
                      refine norm_ (a' := ?_) ?_ ?_
                      rotate_left
                      ·simp only [putAll, Act.put, List.setIfInBounds_toArray, List.set_cons_zero, List.set_cons_succ]; rfl
                      refine two_ (i := 0) (j := 11) (Ni := some 13) (Nj := some 24) (dB 15 10191) (dB 15 12238) rfl rfl rfl rfl (two_of HT_.out (by kernel_rfl)) (by decide) (by decide) (fun K hK => ?_) (fun K hK => ?_)
                      ·skip
                       refine Kd.R_lit_step Kd.string _ 9 ?hg (N := 13) ?hd (xs := ([(⟨#[65, 117, 116, 104, 111, 114, 105, 122, 97, 116, 105, 111, 110]⟩ : ByteArray), (⟨#[67, 79, 79, 75, 73, 69]⟩ : ByteArray), (⟨#[114, 97, 110, 103, 101]⟩ : ByteArray), (⟨#[67, 97, 99, 104, 101, 45, 67, 111, 110, 116, 114, 111, 108]⟩ : ByteArray), (⟨#[99, 97, 99, 104, 101, 45, 99, 111, 110, 116, 114, 111, 108]⟩ : ByteArray), (⟨#[88]⟩ : ByteArray)] : List ByteArray)) (inner := [.string (⟨#[65, 117, 116, 104, 111, 114, 105, 122, 97, 116, 105, 111, 110]⟩ : ByteArray), .string (⟨#[67, 79, 79, 75, 73, 69]⟩ : ByteArray), .string (⟨#[114, 97, 110, 103, 101]⟩ : ByteArray), .string (⟨#[67, 97, 99, 104, 101, 45, 67, 111, 110, 116, 114, 111, 108]⟩ : ByteArray), .string (⟨#[99, 97, 99, 104, 101, 45, 99, 111, 110, 116, 114, 111, 108]⟩ : ByteArray), .string (⟨#[88]⟩ : ByteArray)]) (ok := fun _ => True) (okp := fun _ => True) ?hr ?hp (fun _ hk => hk) trivial (Below.refl _ _) (Nat.le_refl _) (by simp) ?_; (case hd => rfl); (case hg => rfl); (case hr => exact zG); (case hp => exact (Reps.one (zY (⟨#[65, 117, 116, 104, 111, 114, 105, 122, 97, 116, 105, 111, 110]⟩ : ByteArray)) (Reps.one (zY (⟨#[67, 79, 79, 75, 73, 69]⟩ : ByteArray)) (Reps.one (zY (⟨#[114, 97, 110, 103, 101]⟩ : ByteArray)) (Reps.one (zY (⟨#[67, 97, 99, 104, 101, 45, 67, 111, 110, 116, 114, 111, 108]⟩ : ByteArray)) (Reps.one (zY (⟨#[99, 97, 99, 104, 101, 45, 99, 111, 110, 116, 114, 111, 108]⟩ : ByteArray)) (Reps.one (zY (⟨#[88]⟩ : ByteArray)) (Reps.none _ _))))))))
                       intro v478 w30 ho31 hb hg_ hnew_; clear hg_ hnew_
                       (first | rw [← Ny477.out] at ho31 | (simp only [Int.reduceToNat] at ho31; rw [← Ny477.out] at ho31))
                       have n0_ := aM (Kd.R_below (zO HO474.out) hb); have n1_ := aM (Kd.R_elder' (zO HO483.out) (Kd.R_base ho31) hb); have n2_ := aM (Kd.R_lower (Kd.R_new' ho31 (Kd.R_lt (zO HO483.out))) (below_size zB)); have n3_ := aM (zX BK476.out hb); have n4_ := aM (zX BK485.out hb); have n5_ := aM (below_step zB hb); clear HO474 HO483 BK476 BK485 HB; have HO474 := n0_; have HO483 := n1_; have HO479 := n2_; have BK476 := n3_; have BK485 := n4_; have HB := n5_; clear n0_ n1_ n2_ n3_ n4_ n5_; clear hb ho31; obtain ⟨Ao32, co32, eo32⟩ := Kd.R_slice HO479.out; subst eo32; obtain ⟨ado32, fo32, _⟩ := Kd.at_string (Kd.R_reads' HO479.out).2.2 0 (by decide) (by rw [Ny477.out]; simp); cases fo32
                       refine hK.out _ _ trivial (fun hHeld => ?_)
                       clear hK K
                       refine norm_ (a' := ?_) ?_ ?_
                       rotate_left
                       ·show Act.put _ (some 13) _ = _
                        exact zP
                       refine pure_ (i := 4) (N := some 17) (v := ?_) (a' := ?_) (dB 15 10207) rfl rfl (zT HT_.out) (fun _ _ _ h => h) (Or.inl ⟨by rfl, ?_⟩) ?_ ?_
                       rotate_left
                       ·intro w'; go_simp; (with_reducible rfl)
                       rotate_left
                       ·exact zP
                       exact norm_ zU (hJ0_6_13 (.slice (some ado32) y477.length co32, ado32, .slice (some adz_v482) y481.length co29, adz_v482, gb485) _ ⟨(zO HO474.out), (by (with_reducible repeat (first | apply rA | apply rN | apply rD)); exact Kd.R_mono HO479.out (fun _ hk => hk.2)), (by (with_reducible repeat (first | apply rA | apply rN | apply rD)); exact Kd.R_mono HO483.out (fun _ hk => hk.2)), ⟨_, rfl⟩, ⟨_, rfl⟩, (zK BK476.out), (zK BK485.out), GW485.out, GE485.out, NB476_485.out, NB485_476.out, zB⟩)
                      ·skip
                       (have p484 : 0 ≤ ((ji8) : Int) := of_decide_eq_true zA; have q484 : (ji8) < (y481.length : Int) := of_decide_eq_true zA; obtain ⟨ad484, e484, hx484_0⟩ := Kd.at_string (Kd.R_reads' HO483.out).2.2 (ji8) p484 q484; obtain rfl : adz_v482 = ad484 := (by injection e484))
                       refine value_ (w1 := ?_) (v := ?_) (by rfl) rfl ?_ ?_
                       rotate_left 2
                       ·go_simp
                        constructor
                        ·rfl
                        ·rfl
                       clear hx484_0
                       refine hK.out _ _ trivial (fun hHeld => ?_)
                       clear hK K
                       refine norm_ (a' := ?_) ?_ ?_
                       rotate_left
                       ·show Act.put _ (some 24) _ = _
                        exact zP
                       exact norm_ zU (hJ6_11_13 (.slice (some adz_v482) y481.length co29, adz_v482, gb485) _ ⟨(zO HO474.out), (zO HO483.out), ⟨_, rfl⟩, (zK BK476.out), (zK BK485.out), GW485.out, GE485.out, NB476_485.out, NB485_476.out, zB⟩)
                    ·skip
                     rintro ⟨v482, adz_v482⟩ w27 ⟨h0_, h1_, h2_, h3_, h4_⟩
                     have n0_ : Aside0 (Kd.R k37 37 w27 w.heap.size (fun _ => True) (.slice Ao21 t472.length co21) t472) := ⟨h0_⟩; have n1_ : Aside0 (Kd.R Kd.string 9 w27 w.heap.size (fun _ => True) v482 y481) := ⟨h1_⟩; have n2_ : Aside0 (∃ c_, (v482 : Value) = .slice (some adz_v482) y481.length c_) := ⟨h2_⟩; have n3_ : Aside0 (w27.heap[gb476]? = some (.cells #[.string (⟨#[71, 69, 84]⟩ : ByteArray), .string t468, .int .i64 t469, .string t470, .int .i64 t471, .slice Ao21 t472.length co21, .string t475] 26 (0, 0))) := ⟨h3_⟩; have n4_ : Aside0 (Below w.heap.size w w27) := ⟨h4_⟩; clear HO474 BK476 HB h0_ h1_ h2_ h3_ h4_; have HO474 := n0_; have HO483 := n1_; have HA_HO483 := n2_; have BK476 := n3_; have HB := n4_; clear n0_ n1_ n2_ n3_ n4_; have hHeld := trivial; obtain ⟨co28, eo28⟩ := HA_HO483.out; clear HA_HO483; subst eo28
                     refine norm_ (a' := ?_) ?_ ?_
                     rotate_left
                     ·simp only [putAll, Act.put, List.setIfInBounds_toArray, List.set_cons_zero, List.set_cons_succ]; rfl
                     refine two_ (i := 0) (j := 13) (Ni := some 13) (Nj := some 8) (dB 15 4047) (dB 15 12238) rfl rfl rfl rfl (two_of HT_.out (by kernel_rfl)) (by decide) (by decide) (fun K hK => ?_) (fun K hK => ?_)
                     ·skip
                      refine Kd.R_lit_step Kd.string _ 9 ?hg (N := 13) ?hd (xs := ([(⟨#[65, 117, 116, 104, 111, 114, 105, 122, 97, 116, 105, 111, 110]⟩ : ByteArray), (⟨#[67, 79, 79, 75, 73, 69]⟩ : ByteArray), (⟨#[114, 97, 110, 103, 101]⟩ : ByteArray), (⟨#[67, 97, 99, 104, 101, 45, 67, 111, 110, 116, 114, 111, 108]⟩ : ByteArray), (⟨#[99, 97, 99, 104, 101, 45, 99, 111, 110, 116, 114, 111, 108]⟩ : ByteArray), (⟨#[88]⟩ : ByteArray)] : List ByteArray)) (inner := [.string (⟨#[65, 117, 116, 104, 111, 114, 105, 122, 97, 116, 105, 111, 110]⟩ : ByteArray), .string (⟨#[67, 79, 79, 75, 73, 69]⟩ : ByteArray), .string (⟨#[114, 97, 110, 103, 101]⟩ : ByteArray), .string (⟨#[67, 97, 99, 104, 101, 45, 67, 111, 110, 116, 114, 111, 108]⟩ : ByteArray), .string (⟨#[99, 97, 99, 104, 101, 45, 99, 111, 110, 116, 114, 111, 108]⟩ : ByteArray), .string (⟨#[88]⟩ : ByteArray)]) (ok := fun _ => True) (okp := fun _ => True) ?hr ?hp (fun _ hk => hk) trivial (Below.refl _ _) (Nat.le_refl _) (by simp) ?_; (case hd => rfl); (case hg => rfl); (case hr => exact zG); (case hp => exact (Reps.one (zY (⟨#[65, 117, 116, 104, 111, 114, 105, 122, 97, 116, 105, 111, 110]⟩ : ByteArray)) (Reps.one (zY (⟨#[67, 79, 79, 75, 73, 69]⟩ : ByteArray)) (Reps.one (zY (⟨#[114, 97, 110, 103, 101]⟩ : ByteArray)) (Reps.one (zY (⟨#[67, 97, 99, 104, 101, 45, 67, 111, 110, 116, 114, 111, 108]⟩ : ByteArray)) (Reps.one (zY (⟨#[99, 97, 99, 104, 101, 45, 99, 111, 110, 116, 114, 111, 108]⟩ : ByteArray)) (Reps.one (zY (⟨#[88]⟩ : ByteArray)) (Reps.none _ _))))))))
                      intro v478 w29 ho30 hb hg_ hnew_; clear hg_ hnew_
                      (first | rw [← Ny477.out] at ho30 | (simp only [Int.reduceToNat] at ho30; rw [← Ny477.out] at ho30))
                      have n0_ := aM (Kd.R_below (zO HO474.out) hb); have n1_ := aM (Kd.R_elder' (zO HO483.out) (Kd.R_base ho30) hb); have n2_ := aM (Kd.R_lower (Kd.R_new' ho30 (Kd.R_lt (zO HO483.out))) (below_size zB)); have n3_ := aM (zX BK476.out hb); have n4_ := aM (below_step zB hb); clear HO474 HO483 BK476 HB; have HO474 := n0_; have HO483 := n1_; have HO479 := n2_; have BK476 := n3_; have HB := n4_; clear n0_ n1_ n2_ n3_ n4_; clear hb ho30; obtain ⟨Ao31, co31, eo31⟩ := Kd.R_slice HO479.out; subst eo31; obtain ⟨ado31, fo31, _⟩ := Kd.at_string (Kd.R_reads' HO479.out).2.2 0 (by decide) (by rw [Ny477.out]; simp); cases fo31
                      refine hK.out _ _ trivial (fun hHeld => ?_)
                      clear hK K
                      refine norm_ (a' := ?_) ?_ ?_
                      rotate_left
                      ·show Act.put _ (some 13) _ = _
                       exact zP
                      refine pure_ (i := 4) (N := some 17) (v := ?_) (a' := ?_) (dB 15 4063) rfl rfl (zT HT_.out) (fun _ _ _ h => h) (Or.inl ⟨by rfl, ?_⟩) ?_ ?_
                      rotate_left
                      ·intro w'; go_simp; (with_reducible rfl)
                      rotate_left
                      ·exact zP
                      exact norm_ zU (hJ0_6_11 (.slice (some ado31) y477.length co31, ado31, .slice (some adz_v482) y481.length co28, adz_v482) _ ⟨(zO HO474.out), (by (with_reducible repeat (first | apply rA | apply rN | apply rD)); exact Kd.R_mono HO479.out (fun _ hk => hk.2)), (by (with_reducible repeat (first | apply rA | apply rN | apply rD)); exact Kd.R_mono HO483.out (fun _ hk => hk.2)), ⟨_, rfl⟩, ⟨_, rfl⟩, (zK BK476.out), zB⟩)
                     ·skip
                      refine box_step ?hg (N := 8) ?hd (cs := #[.string (⟨#[]⟩ : ByteArray), .string (⟨#[]⟩ : ByteArray)]) (t := 37) ?hr ?_; (case hd => rfl); (case hg => rfl); (case hr => exact zG)
                      intro gb485 hg w29 hbox hb; have n0_ := aM (Kd.R_below (Kd.R_elderB (zO HO474.out) gb485 (Nat.le_of_eq hg.symm)) hb); have n1_ := aM (Kd.R_below (zO HO483.out) hb); have n2_ := aM (zX BK476.out hb); have n3_ := aM (below_step zB hb); have n4_ := aM (hbox); have n5_ := aM ((by rw [hg]; exact (below_size zB) : w.heap.size ≤ gb485)); have n6_ := aM ((by rw [hg]; exact (below_size zB) : w.heap.size ≤ gb485)); have n7_ := aM ((by rw [hg]; exact Nat.ne_of_lt (blk_lt (zK BK476.out)) : gb476 ≠ gb485)); have n8_ := aM ((by rw [hg]; exact Nat.ne_of_gt (blk_lt (zK BK476.out)) : gb485 ≠ gb476)); clear HO474 HO483 BK476 HB; have HO474 := n0_; have HO483 := n1_; have BK476 := n2_; have HB := n3_; have BK485 := n4_; have GW485 := n5_; have GE485 := n6_; have NB476_485 := n7_; have NB485_476 := n8_; clear n0_ n1_ n2_ n3_ n4_ n5_ n6_ n7_ n8_; clear hb hbox hg
                      refine hK.out _ _ trivial (fun hHeld => ?_)
                      clear hK K
                      refine norm_ (a' := ?_) ?_ ?_
                      rotate_left
                      ·show Act.put _ (some 8) _ = _
                       exact zP
                      exact norm_ zU (hJ6_11_13 (.slice (some adz_v482) y481.length co28, adz_v482, gb485) _ ⟨(by (with_reducible repeat (first | apply rA | apply rN | apply rD)); exact Kd.R_mono HO474.out (fun _ hk => hk.2)), (zO HO483.out), ⟨_, rfl⟩, (zK BK476.out), (zK BK485.out), GW485.out, GE485.out, NB476_485.out, NB485_476.out, zB⟩)
                   ·skip
                    rintro ⟨v478, adz_v478, gb485⟩ w28 ⟨h0_, h1_, h2_, h3_, h4_, h5_, h6_, h7_, h8_, h9_⟩
                    have n0_ : Aside0 (Kd.R k37 37 w28 w.heap.size (fun k_ => k_ ≠ gb485) (.slice Ao21 t472.length co21) t472) := ⟨h0_⟩; have n1_ : Aside0 (Kd.R Kd.string 9 w28 w.heap.size (fun _ => True) v478 y477) := ⟨h1_⟩; have n2_ : Aside0 (∃ c_, (v478 : Value) = .slice (some adz_v478) y477.length c_) := ⟨h2_⟩; have n3_ : Aside0 (w28.heap[gb476]? = some (.cells #[.string (⟨#[71, 69, 84]⟩ : ByteArray), .string t468, .int .i64 t469, .string t470, .int .i64 t471, .slice Ao21 t472.length co21, .string t475] 26 (0, 0))) := ⟨h3_⟩; have n4_ : Aside0 (w28.heap[gb485]? = some (.cells #[.string (⟨#[]⟩ : ByteArray), .string (⟨#[]⟩ : ByteArray)] 37 (0, 0))) := ⟨h4_⟩; have n5_ : Aside0 (w.heap.size ≤ gb485) := ⟨h5_⟩; have n6_ : Aside0 (w.heap.size ≤ gb485) := ⟨h6_⟩; have n7_ : Aside0 (gb476 ≠ gb485) := ⟨h7_⟩; have n8_ : Aside0 (gb485 ≠ gb476) := ⟨h8_⟩; have n9_ : Aside0 (Below w.heap.size w w28) := ⟨h9_⟩; clear HO474 BK476 HB h0_ h1_ h2_ h3_ h4_ h5_ h6_ h7_ h8_ h9_; have HO474 := n0_; have HO479 := n1_; have HA_HO479 := n2_; have BK476 := n3_; have BK485 := n4_; have GW485 := n5_; have GE485 := n6_; have NB476_485 := n7_; have NB485_476 := n8_; have HB := n9_; clear n0_ n1_ n2_ n3_ n4_ n5_ n6_ n7_ n8_ n9_; have hHeld := trivial; obtain ⟨co29, eo29⟩ := HA_HO479.out; clear HA_HO479; subst eo29
                    refine norm_ (a' := ?_) ?_ ?_
                    rotate_left
                    ·simp only [putAll, Act.put, List.setIfInBounds_toArray, List.set_cons_zero, List.set_cons_succ]; rfl
                    refine two_ (i := 5) (j := 6) (Ni := some 18) (Nj := some 19) (dB 15 9151) (dB 15 9183) rfl rfl rfl rfl (two_of HT_.out (by kernel_rfl)) (by decide) (by decide) (fun K hK => ?_) (fun K hK => ?_)
                    ·skip
                     (have p480 : 0 ≤ ((ji5) : Int) := of_decide_eq_true zA; have q480 : (ji5) < (y477.length : Int) := of_decide_eq_true zA; obtain ⟨ad480, e480, hx480_0⟩ := Kd.at_string (Kd.R_reads' HO479.out).2.2 (ji5) p480 q480; obtain rfl : adz_v478 = ad480 := (by injection e480))
                     refine value_ (w1 := ?_) (v := ?_) (by rfl) rfl ?_ ?_
                     rotate_left 2
                     ·go_simp
                      constructor
                      ·rfl
                      ·rfl
                     clear hx480_0
                     refine hK.out _ _ trivial (fun hHeld => ?_)
                     clear hK K
                     refine norm_ (a' := ?_) ?_ ?_
                     rotate_left
                     ·show Act.put _ (some 18) _ = _
                      exact zP
                     exact norm_ zU (hJ0_5_13 (.slice (some adz_v478) y477.length co29, adz_v478, gb485) _ ⟨(zO HO474.out), (zO HO479.out), ⟨_, rfl⟩, (zK BK476.out), (zK BK485.out), GW485.out, GE485.out, NB476_485.out, NB485_476.out, zB⟩)
                    ·skip
                     refine Kd.R_lit_step Kd.string _ 9 ?hg (N := 19) ?hd (xs := ([(⟨#[]⟩ : ByteArray), (⟨#[110, 111, 45, 115, 116, 111, 114, 101]⟩ : ByteArray), (⟨#[97, 44, 32, 78, 111, 45, 83, 116, 111, 114, 101]⟩ : ByteArray), (⟨#[110, 111, 45, 99, 97, 99, 104, 101]⟩ : ByteArray), (⟨#[110, 111, 45, 115, 116, 111, 114, 101, 61, 49]⟩ : ByteArray)] : List ByteArray)) (inner := [.string (⟨#[]⟩ : ByteArray), .string (⟨#[110, 111, 45, 115, 116, 111, 114, 101]⟩ : ByteArray), .string (⟨#[97, 44, 32, 78, 111, 45, 83, 116, 111, 114, 101]⟩ : ByteArray), .string (⟨#[110, 111, 45, 99, 97, 99, 104, 101]⟩ : ByteArray), .string (⟨#[110, 111, 45, 115, 116, 111, 114, 101, 61, 49]⟩ : ByteArray)]) (ok := fun _ => True) (okp := fun _ => True) ?hr ?hp (fun _ hk => hk) trivial (Below.refl _ _) (Nat.le_refl _) (by simp) ?_; (case hd => rfl); (case hg => rfl); (case hr => exact zG); (case hp => exact (Reps.one (zY (⟨#[]⟩ : ByteArray)) (Reps.one (zY (⟨#[110, 111, 45, 115, 116, 111, 114, 101]⟩ : ByteArray)) (Reps.one (zY (⟨#[97, 44, 32, 78, 111, 45, 83, 116, 111, 114, 101]⟩ : ByteArray)) (Reps.one (zY (⟨#[110, 111, 45, 99, 97, 99, 104, 101]⟩ : ByteArray)) (Reps.one (zY (⟨#[110, 111, 45, 115, 116, 111, 114, 101, 61, 49]⟩ : ByteArray)) (Reps.none _ _)))))))
                     intro v482 w30 ho31 hb hg_ hnew_; clear hg_ hnew_
                     (first | rw [← Ny481.out] at ho31 | (simp only [Int.reduceToNat] at ho31; rw [← Ny481.out] at ho31))
                     have n0_ := aM (Kd.R_below (zO HO474.out) hb); have n1_ := aM (Kd.R_elder' (zO HO479.out) (Kd.R_base ho31) hb); have n2_ := aM (Kd.R_lower (Kd.R_new' ho31 (Kd.R_lt (zO HO479.out))) (below_size zB)); have n3_ := aM (zX BK476.out hb); have n4_ := aM (zX BK485.out hb); have n5_ := aM (below_step zB hb); clear HO474 HO479 BK476 BK485 HB; have HO474 := n0_; have HO479 := n1_; have HO483 := n2_; have BK476 := n3_; have BK485 := n4_; have HB := n5_; clear n0_ n1_ n2_ n3_ n4_ n5_; clear hb ho31; obtain ⟨Ao32, co32, eo32⟩ := Kd.R_slice HO483.out; subst eo32; obtain ⟨ado32, fo32, _⟩ := Kd.at_string (Kd.R_reads' HO483.out).2.2 0 (by decide) (by rw [Ny481.out]; simp); cases fo32
                     refine hK.out _ _ trivial (fun hHeld => ?_)
                     clear hK K
                     refine norm_ (a' := ?_) ?_ ?_
                     rotate_left
                     ·show Act.put _ (some 19) _ = _
                      exact zP
                     refine pure_ (i := 10) (N := some 23) (v := ?_) (a' := ?_) (dB 15 10207) rfl rfl (zT HT_.out) (fun _ _ _ h => h) (Or.inl ⟨by rfl, ?_⟩) ?_ ?_
                     rotate_left
                     ·intro w'; go_simp; (with_reducible rfl)
                     rotate_left
                     ·exact zP
                     exact norm_ zU (hJ0_6_13 (.slice (some adz_v478) y477.length co29, adz_v478, .slice (some ado32) y481.length co32, ado32, gb485) _ ⟨(zO HO474.out), (by (with_reducible repeat (first | apply rA | apply rN | apply rD)); exact Kd.R_mono HO479.out (fun _ hk => hk.2)), (by (with_reducible repeat (first | apply rA | apply rN | apply rD)); exact Kd.R_mono HO483.out (fun _ hk => hk.2)), ⟨_, rfl⟩, ⟨_, rfl⟩, (zK BK476.out), (zK BK485.out), GW485.out, GE485.out, NB476_485.out, NB485_476.out, zB⟩)
                  ·skip
                   rintro ⟨v478, adz_v478, v482, adz_v482⟩ w30 ⟨h0_, h1_, h2_, h3_, h4_, h5_, h6_⟩
                   have n0_ : Aside0 (Kd.R k37 37 w30 w.heap.size (fun _ => True) (.slice Ao21 t472.length co21) t472) := ⟨h0_⟩; have n1_ : Aside0 (Kd.R Kd.string 9 w30 w.heap.size (fun k_ => some k_ ≠ (v482 : Value).ownBlock) v478 y477) := ⟨h1_⟩; have n2_ : Aside0 (Kd.R Kd.string 9 w30 w.heap.size (fun k_ => some k_ ≠ (v478 : Value).ownBlock) v482 y481) := ⟨h2_⟩; have n3_ : Aside0 (∃ c_, (v478 : Value) = .slice (some adz_v478) y477.length c_) := ⟨h3_⟩; have n4_ : Aside0 (∃ c_, (v482 : Value) = .slice (some adz_v482) y481.length c_) := ⟨h4_⟩; have n5_ : Aside0 (w30.heap[gb476]? = some (.cells #[.string (⟨#[71, 69, 84]⟩ : ByteArray), .string t468, .int .i64 t469, .string t470, .int .i64 t471, .slice Ao21 t472.length co21, .string t475] 26 (0, 0))) := ⟨h5_⟩; have n6_ : Aside0 (Below w.heap.size w w30) := ⟨h6_⟩; clear HO474 BK476 HB h0_ h1_ h2_ h3_ h4_ h5_ h6_; have HO474 := n0_; have HO479 := n1_; have HO483 := n2_; have HA_HO479 := n3_; have HA_HO483 := n4_; have BK476 := n5_; have HB := n6_; clear n0_ n1_ n2_ n3_ n4_ n5_ n6_; have hHeld := trivial; obtain ⟨co31, eo31⟩ := HA_HO479.out; clear HA_HO479; subst eo31; obtain ⟨co32, eo32⟩ := HA_HO483.out; clear HA_HO483; subst eo32
                   refine norm_ (a' := ?_) ?_ ?_
                   rotate_left
                   ·simp only [putAll, Act.put, List.setIfInBounds_toArray, List.set_cons_zero, List.set_cons_succ]; rfl
                   refine three_ (i := 5) (j := 11) (k := 13) (Ni := some 18) (Nj := some 24) (Nk := some 8) (dB 15 2047) (dB 15 4063) (dB 15 10207) rfl rfl rfl rfl rfl rfl (three_of HT_.out (by kernel_rfl)) (by decide) (by decide) (by decide) (fun K hK => ?_) (fun K hK => ?_) (fun K hK => ?_)
                   ·skip
                    (have p480 : 0 ≤ ((ji5) : Int) := of_decide_eq_true zA; have q480 : (ji5) < (y477.length : Int) := of_decide_eq_true zA; obtain ⟨ad480, e480, hx480_0⟩ := Kd.at_string (Kd.R_reads' HO479.out).2.2 (ji5) p480 q480; obtain rfl : adz_v478 = ad480 := (by injection e480))
                    refine value_ (w1 := ?_) (v := ?_) (by rfl) rfl ?_ ?_
                    rotate_left 2
                    ·go_simp
                     constructor
                     ·rfl
                     ·rfl
                    clear hx480_0
                    refine hK.out _ _ trivial (fun hHeld => ?_)
                    clear hK K
                    refine norm_ (a' := ?_) ?_ ?_
                    rotate_left
                    ·show Act.put _ (some 18) _ = _
                     exact zP
                    exact norm_ zU (hJ0_5_6 (.slice (some adz_v478) y477.length co31, adz_v478, .slice (some adz_v482) y481.length co32, adz_v482) _ ⟨(zO HO474.out), (zO HO479.out), (zO HO483.out), ⟨_, rfl⟩, ⟨_, rfl⟩, (zK BK476.out), zB⟩)
                   ·skip
                    (have p484 : 0 ≤ ((ji8) : Int) := of_decide_eq_true zA; have q484 : (ji8) < (y481.length : Int) := of_decide_eq_true zA; obtain ⟨ad484, e484, hx484_0⟩ := Kd.at_string (Kd.R_reads' HO483.out).2.2 (ji8) p484 q484; obtain rfl : adz_v482 = ad484 := (by injection e484))
                    refine value_ (w1 := ?_) (v := ?_) (by rfl) rfl ?_ ?_
                    rotate_left 2
                    ·go_simp
                     constructor
                     ·rfl
                     ·rfl
                    clear hx484_0
                    refine hK.out _ _ trivial (fun hHeld => ?_)
                    clear hK K
                    refine norm_ (a' := ?_) ?_ ?_
                    rotate_left
                    ·show Act.put _ (some 24) _ = _
                     exact zP
                    exact norm_ zU (hJ0_6_11 (.slice (some adz_v478) y477.length co31, adz_v478, .slice (some adz_v482) y481.length co32, adz_v482) _ ⟨(zO HO474.out), (zO HO479.out), (zO HO483.out), ⟨_, rfl⟩, ⟨_, rfl⟩, (zK BK476.out), zB⟩)
                   ·skip
                    refine box_step ?hg (N := 8) ?hd (cs := #[.string (⟨#[]⟩ : ByteArray), .string (⟨#[]⟩ : ByteArray)]) (t := 37) ?hr ?_; (case hd => rfl); (case hg => rfl); (case hr => exact zG)
                    intro gb485 hg w33 hbox hb; have n0_ := aM (Kd.R_below (Kd.R_elderB (zO HO474.out) gb485 (Nat.le_of_eq hg.symm)) hb); have n1_ := aM (Kd.R_below (zO HO479.out) hb); have n2_ := aM (Kd.R_below (zO HO483.out) hb); have n3_ := aM (zX BK476.out hb); have n4_ := aM (below_step zB hb); have n5_ := aM (hbox); have n6_ := aM ((by rw [hg]; exact (below_size zB) : w.heap.size ≤ gb485)); have n7_ := aM ((by rw [hg]; exact (below_size zB) : w.heap.size ≤ gb485)); have n8_ := aM ((by rw [hg]; exact Nat.ne_of_lt (blk_lt (zK BK476.out)) : gb476 ≠ gb485)); have n9_ := aM ((by rw [hg]; exact Nat.ne_of_gt (blk_lt (zK BK476.out)) : gb485 ≠ gb476)); clear HO474 HO479 HO483 BK476 HB; have HO474 := n0_; have HO479 := n1_; have HO483 := n2_; have BK476 := n3_; have HB := n4_; have BK485 := n5_; have GW485 := n6_; have GE485 := n7_; have NB476_485 := n8_; have NB485_476 := n9_; clear n0_ n1_ n2_ n3_ n4_ n5_ n6_ n7_ n8_ n9_; clear hb hbox hg
                    refine hK.out _ _ trivial (fun hHeld => ?_)
                    clear hK K
                    refine norm_ (a' := ?_) ?_ ?_
                    rotate_left
                    ·show Act.put _ (some 8) _ = _
                     exact zP
                    exact norm_ zU (hJ0_6_13 (.slice (some adz_v478) y477.length co31, adz_v478, .slice (some adz_v482) y481.length co32, adz_v482, gb485) _ ⟨(by (with_reducible repeat (first | apply rA | apply rN | apply rD)); exact Kd.R_mono HO474.out (fun _ hk => hk.2)), (zO HO479.out), (zO HO483.out), ⟨_, rfl⟩, ⟨_, rfl⟩, (zK BK476.out), (zK BK485.out), GW485.out, GE485.out, NB476_485.out, NB485_476.out, zB⟩)
                 ·skip
                  rintro ⟨v478, adz_v478⟩ w27 ⟨h0_, h1_, h2_, h3_, h4_⟩
                  have n0_ : Aside0 (Kd.R k37 37 w27 w.heap.size (fun _ => True) (.slice Ao21 t472.length co21) t472) := ⟨h0_⟩; have n1_ : Aside0 (Kd.R Kd.string 9 w27 w.heap.size (fun _ => True) v478 y477) := ⟨h1_⟩; have n2_ : Aside0 (∃ c_, (v478 : Value) = .slice (some adz_v478) y477.length c_) := ⟨h2_⟩; have n3_ : Aside0 (w27.heap[gb476]? = some (.cells #[.string (⟨#[71, 69, 84]⟩ : ByteArray), .string t468, .int .i64 t469, .string t470, .int .i64 t471, .slice Ao21 t472.length co21, .string t475] 26 (0, 0))) := ⟨h3_⟩; have n4_ : Aside0 (Below w.heap.size w w27) := ⟨h4_⟩; clear HO474 BK476 HB h0_ h1_ h2_ h3_ h4_; have HO474 := n0_; have HO479 := n1_; have HA_HO479 := n2_; have BK476 := n3_; have HB := n4_; clear n0_ n1_ n2_ n3_ n4_; have hHeld := trivial; obtain ⟨co28, eo28⟩ := HA_HO479.out; clear HA_HO479; subst eo28
                  refine norm_ (a' := ?_) ?_ ?_
                  rotate_left
                  ·simp only [putAll, Act.put, List.setIfInBounds_toArray, List.set_cons_zero, List.set_cons_succ]; rfl
                  refine two_ (i := 6) (j := 13) (Ni := some 19) (Nj := some 8) (dB 15 1023) (dB 15 9151) rfl rfl rfl rfl (two_of HT_.out (by kernel_rfl)) (by decide) (by decide) (fun K hK => ?_) (fun K hK => ?_)
                  ·skip
                   refine Kd.R_lit_step Kd.string _ 9 ?hg (N := 19) ?hd (xs := ([(⟨#[]⟩ : ByteArray), (⟨#[110, 111, 45, 115, 116, 111, 114, 101]⟩ : ByteArray), (⟨#[97, 44, 32, 78, 111, 45, 83, 116, 111, 114, 101]⟩ : ByteArray), (⟨#[110, 111, 45, 99, 97, 99, 104, 101]⟩ : ByteArray), (⟨#[110, 111, 45, 115, 116, 111, 114, 101, 61, 49]⟩ : ByteArray)] : List ByteArray)) (inner := [.string (⟨#[]⟩ : ByteArray), .string (⟨#[110, 111, 45, 115, 116, 111, 114, 101]⟩ : ByteArray), .string (⟨#[97, 44, 32, 78, 111, 45, 83, 116, 111, 114, 101]⟩ : ByteArray), .string (⟨#[110, 111, 45, 99, 97, 99, 104, 101]⟩ : ByteArray), .string (⟨#[110, 111, 45, 115, 116, 111, 114, 101, 61, 49]⟩ : ByteArray)]) (ok := fun _ => True) (okp := fun _ => True) ?hr ?hp (fun _ hk => hk) trivial (Below.refl _ _) (Nat.le_refl _) (by simp) ?_; (case hd => rfl); (case hg => rfl); (case hr => exact zG); (case hp => exact (Reps.one (zY (⟨#[]⟩ : ByteArray)) (Reps.one (zY (⟨#[110, 111, 45, 115, 116, 111, 114, 101]⟩ : ByteArray)) (Reps.one (zY (⟨#[97, 44, 32, 78, 111, 45, 83, 116, 111, 114, 101]⟩ : ByteArray)) (Reps.one (zY (⟨#[110, 111, 45, 99, 97, 99, 104, 101]⟩ : ByteArray)) (Reps.one (zY (⟨#[110, 111, 45, 115, 116, 111, 114, 101, 61, 49]⟩ : ByteArray)) (Reps.none _ _)))))))
                   intro v482 w29 ho30 hb hg_ hnew_; clear hg_ hnew_
                   (first | rw [← Ny481.out] at ho30 | (simp only [Int.reduceToNat] at ho30; rw [← Ny481.out] at ho30))
                   have n0_ := aM (Kd.R_below (zO HO474.out) hb); have n1_ := aM (Kd.R_elder' (zO HO479.out) (Kd.R_base ho30) hb); have n2_ := aM (Kd.R_lower (Kd.R_new' ho30 (Kd.R_lt (zO HO479.out))) (below_size zB)); have n3_ := aM (zX BK476.out hb); have n4_ := aM (below_step zB hb); clear HO474 HO479 BK476 HB; have HO474 := n0_; have HO479 := n1_; have HO483 := n2_; have BK476 := n3_; have HB := n4_; clear n0_ n1_ n2_ n3_ n4_; clear hb ho30; obtain ⟨Ao31, co31, eo31⟩ := Kd.R_slice HO483.out; subst eo31; obtain ⟨ado31, fo31, _⟩ := Kd.at_string (Kd.R_reads' HO483.out).2.2 0 (by decide) (by rw [Ny481.out]; simp); cases fo31
                   refine hK.out _ _ trivial (fun hHeld => ?_)
                   clear hK K
                   refine norm_ (a' := ?_) ?_ ?_
                   rotate_left
                   ·show Act.put _ (some 19) _ = _
                    exact zP
                   refine pure_ (i := 10) (N := some 23) (v := ?_) (a' := ?_) (dB 15 2047) rfl rfl (zT HT_.out) (fun _ _ _ h => h) (Or.inl ⟨by rfl, ?_⟩) ?_ ?_
                   rotate_left
                   ·intro w'; go_simp; (with_reducible rfl)
                   rotate_left
                   ·exact zP
                   exact norm_ zU (hJ0_5_6 (.slice (some adz_v478) y477.length co28, adz_v478, .slice (some ado31) y481.length co31, ado31) _ ⟨(zO HO474.out), (by (with_reducible repeat (first | apply rA | apply rN | apply rD)); exact Kd.R_mono HO479.out (fun _ hk => hk.2)), (by (with_reducible repeat (first | apply rA | apply rN | apply rD)); exact Kd.R_mono HO483.out (fun _ hk => hk.2)), ⟨_, rfl⟩, ⟨_, rfl⟩, (zK BK476.out), zB⟩)
                  ·skip
                   refine box_step ?hg (N := 8) ?hd (cs := #[.string (⟨#[]⟩ : ByteArray), .string (⟨#[]⟩ : ByteArray)]) (t := 37) ?hr ?_; (case hd => rfl); (case hg => rfl); (case hr => exact zG)
                   intro gb485 hg w29 hbox hb; have n0_ := aM (Kd.R_below (Kd.R_elderB (zO HO474.out) gb485 (Nat.le_of_eq hg.symm)) hb); have n1_ := aM (Kd.R_below (zO HO479.out) hb); have n2_ := aM (zX BK476.out hb); have n3_ := aM (below_step zB hb); have n4_ := aM (hbox); have n5_ := aM ((by rw [hg]; exact (below_size zB) : w.heap.size ≤ gb485)); have n6_ := aM ((by rw [hg]; exact (below_size zB) : w.heap.size ≤ gb485)); have n7_ := aM ((by rw [hg]; exact Nat.ne_of_lt (blk_lt (zK BK476.out)) : gb476 ≠ gb485)); have n8_ := aM ((by rw [hg]; exact Nat.ne_of_gt (blk_lt (zK BK476.out)) : gb485 ≠ gb476)); clear HO474 HO479 BK476 HB; have HO474 := n0_; have HO479 := n1_; have BK476 := n2_; have HB := n3_; have BK485 := n4_; have GW485 := n5_; have GE485 := n6_; have NB476_485 := n7_; have NB485_476 := n8_; clear n0_ n1_ n2_ n3_ n4_ n5_ n6_ n7_ n8_; clear hb hbox hg
                   refine hK.out _ _ trivial (fun hHeld => ?_)
                   clear hK K
                   refine norm_ (a' := ?_) ?_ ?_
                   rotate_left
                   ·show Act.put _ (some 8) _ = _
                    exact zP
                   exact norm_ zU (hJ0_5_13 (.slice (some adz_v478) y477.length co28, adz_v478, gb485) _ ⟨(by (with_reducible repeat (first | apply rA | apply rN | apply rD)); exact Kd.R_mono HO474.out (fun _ hk => hk.2)), (zO HO479.out), ⟨_, rfl⟩, (zK BK476.out), (zK BK485.out), GW485.out, GE485.out, NB476_485.out, NB485_476.out, zB⟩)
                ·skip
                 rintro ⟨v482, adz_v482, gb485⟩ w28 ⟨h0_, h1_, h2_, h3_, h4_, h5_, h6_, h7_, h8_, h9_⟩
                 have n0_ : Aside0 (Kd.R k37 37 w28 w.heap.size (fun k_ => k_ ≠ gb485) (.slice Ao21 t472.length co21) t472) := ⟨h0_⟩; have n1_ : Aside0 (Kd.R Kd.string 9 w28 w.heap.size (fun _ => True) v482 y481) := ⟨h1_⟩; have n2_ : Aside0 (∃ c_, (v482 : Value) = .slice (some adz_v482) y481.length c_) := ⟨h2_⟩; have n3_ : Aside0 (w28.heap[gb476]? = some (.cells #[.string (⟨#[71, 69, 84]⟩ : ByteArray), .string t468, .int .i64 t469, .string t470, .int .i64 t471, .slice Ao21 t472.length co21, .string t475] 26 (0, 0))) := ⟨h3_⟩; have n4_ : Aside0 (w28.heap[gb485]? = some (.cells #[.string (⟨#[]⟩ : ByteArray), .string (⟨#[]⟩ : ByteArray)] 37 (0, 0))) := ⟨h4_⟩; have n5_ : Aside0 (w.heap.size ≤ gb485) := ⟨h5_⟩; have n6_ : Aside0 (w.heap.size ≤ gb485) := ⟨h6_⟩; have n7_ : Aside0 (gb476 ≠ gb485) := ⟨h7_⟩; have n8_ : Aside0 (gb485 ≠ gb476) := ⟨h8_⟩; have n9_ : Aside0 (Below w.heap.size w w28) := ⟨h9_⟩; clear HO474 BK476 HB h0_ h1_ h2_ h3_ h4_ h5_ h6_ h7_ h8_ h9_; have HO474 := n0_; have HO483 := n1_; have HA_HO483 := n2_; have BK476 := n3_; have BK485 := n4_; have GW485 := n5_; have GE485 := n6_; have NB476_485 := n7_; have NB485_476 := n8_; have HB := n9_; clear n0_ n1_ n2_ n3_ n4_ n5_ n6_ n7_ n8_ n9_; have hHeld := trivial; obtain ⟨co29, eo29⟩ := HA_HO483.out; clear HA_HO483; subst eo29
                 refine norm_ (a' := ?_) ?_ ?_
                 rotate_left
                 ·simp only [putAll, Act.put, List.setIfInBounds_toArray, List.set_cons_zero, List.set_cons_succ]; rfl
                 refine one_ (i := 0) (N := some 13) (dB 15 12239) rfl rfl (one_of HT_.out (by kernel_rfl)) (by decide) (fun K hK => ?_)
                 refine Kd.R_lit_step Kd.string _ 9 ?hg (N := 13) ?hd (xs := ([(⟨#[65, 117, 116, 104, 111, 114, 105, 122, 97, 116, 105, 111, 110]⟩ : ByteArray), (⟨#[67, 79, 79, 75, 73, 69]⟩ : ByteArray), (⟨#[114, 97, 110, 103, 101]⟩ : ByteArray), (⟨#[67, 97, 99, 104, 101, 45, 67, 111, 110, 116, 114, 111, 108]⟩ : ByteArray), (⟨#[99, 97, 99, 104, 101, 45, 99, 111, 110, 116, 114, 111, 108]⟩ : ByteArray), (⟨#[88]⟩ : ByteArray)] : List ByteArray)) (inner := [.string (⟨#[65, 117, 116, 104, 111, 114, 105, 122, 97, 116, 105, 111, 110]⟩ : ByteArray), .string (⟨#[67, 79, 79, 75, 73, 69]⟩ : ByteArray), .string (⟨#[114, 97, 110, 103, 101]⟩ : ByteArray), .string (⟨#[67, 97, 99, 104, 101, 45, 67, 111, 110, 116, 114, 111, 108]⟩ : ByteArray), .string (⟨#[99, 97, 99, 104, 101, 45, 99, 111, 110, 116, 114, 111, 108]⟩ : ByteArray), .string (⟨#[88]⟩ : ByteArray)]) (ok := fun _ => True) (okp := fun _ => True) ?hr ?hp (fun _ hk => hk) trivial (Below.refl _ _) (Nat.le_refl _) (by simp) ?_; (case hd => rfl); (case hg => rfl); (case hr => exact zG); (case hp => exact (Reps.one (zY (⟨#[65, 117, 116, 104, 111, 114, 105, 122, 97, 116, 105, 111, 110]⟩ : ByteArray)) (Reps.one (zY (⟨#[67, 79, 79, 75, 73, 69]⟩ : ByteArray)) (Reps.one (zY (⟨#[114, 97, 110, 103, 101]⟩ : ByteArray)) (Reps.one (zY (⟨#[67, 97, 99, 104, 101, 45, 67, 111, 110, 116, 114, 111, 108]⟩ : ByteArray)) (Reps.one (zY (⟨#[99, 97, 99, 104, 101, 45, 99, 111, 110, 116, 114, 111, 108]⟩ : ByteArray)) (Reps.one (zY (⟨#[88]⟩ : ByteArray)) (Reps.none _ _))))))))
                 intro v478 w30 ho31 hb hg_ hnew_; clear hg_ hnew_
                 (first | rw [← Ny477.out] at ho31 | (simp only [Int.reduceToNat] at ho31; rw [← Ny477.out] at ho31))
                 have n0_ := aM (Kd.R_below (zO HO474.out) hb); have n1_ := aM (Kd.R_elder' (zO HO483.out) (Kd.R_base ho31) hb); have n2_ := aM (Kd.R_lower (Kd.R_new' ho31 (Kd.R_lt (zO HO483.out))) (below_size zB)); have n3_ := aM (zX BK476.out hb); have n4_ := aM (zX BK485.out hb); have n5_ := aM (below_step zB hb); clear HO474 HO483 BK476 BK485 HB; have HO474 := n0_; have HO483 := n1_; have HO479 := n2_; have BK476 := n3_; have BK485 := n4_; have HB := n5_; clear n0_ n1_ n2_ n3_ n4_ n5_; clear hb ho31; obtain ⟨Ao32, co32, eo32⟩ := Kd.R_slice HO479.out; subst eo32; obtain ⟨ado32, fo32, _⟩ := Kd.at_string (Kd.R_reads' HO479.out).2.2 0 (by decide) (by rw [Ny477.out]; simp); cases fo32
                 refine hK.out _ _ trivial (fun hHeld => ?_)
                 clear hK K
                 refine norm_ (a' := ?_) ?_ ?_
                 rotate_left
                 ·show Act.put _ (some 13) _ = _
                  exact zP
                 refine pure_ (i := 4) (N := some 17) (v := ?_) (a' := ?_) (dB 15 12255) rfl rfl (zT HT_.out) (fun _ _ _ h => h) (Or.inl ⟨by rfl, ?_⟩) ?_ ?_
                 rotate_left
                 ·intro w'; go_simp; (with_reducible rfl)
                 rotate_left
                 ·exact zP
                 exact norm_ zU (hJ0_6_11_13 (.slice (some ado32) y477.length co32, ado32, .slice (some adz_v482) y481.length co29, adz_v482, gb485) _ ⟨(zO HO474.out), (by (with_reducible repeat (first | apply rA | apply rN | apply rD)); exact Kd.R_mono HO479.out (fun _ hk => hk.2)), (by (with_reducible repeat (first | apply rA | apply rN | apply rD)); exact Kd.R_mono HO483.out (fun _ hk => hk.2)), ⟨_, rfl⟩, ⟨_, rfl⟩, (zK BK476.out), (zK BK485.out), GW485.out, GE485.out, NB476_485.out, NB485_476.out, zB⟩)
               ·skip
                rintro ⟨v478, adz_v478, v482, adz_v482, gb485⟩ w31 ⟨h0_, h1_, h2_, h3_, h4_, h5_, h6_, h7_, h8_, h9_, h10_, h11_⟩
                have n0_ : Aside0 (Kd.R k37 37 w31 w.heap.size (fun k_ => k_ ≠ gb485) (.slice Ao21 t472.length co21) t472) := ⟨h0_⟩; have n1_ : Aside0 (Kd.R Kd.string 9 w31 w.heap.size (fun k_ => some k_ ≠ (v482 : Value).ownBlock) v478 y477) := ⟨h1_⟩; have n2_ : Aside0 (Kd.R Kd.string 9 w31 w.heap.size (fun k_ => some k_ ≠ (v478 : Value).ownBlock) v482 y481) := ⟨h2_⟩; have n3_ : Aside0 (∃ c_, (v478 : Value) = .slice (some adz_v478) y477.length c_) := ⟨h3_⟩; have n4_ : Aside0 (∃ c_, (v482 : Value) = .slice (some adz_v482) y481.length c_) := ⟨h4_⟩; have n5_ : Aside0 (w31.heap[gb476]? = some (.cells #[.string (⟨#[71, 69, 84]⟩ : ByteArray), .string t468, .int .i64 t469, .string t470, .int .i64 t471, .slice Ao21 t472.length co21, .string t475] 26 (0, 0))) := ⟨h5_⟩; have n6_ : Aside0 (w31.heap[gb485]? = some (.cells #[.string (⟨#[]⟩ : ByteArray), .string (⟨#[]⟩ : ByteArray)] 37 (0, 0))) := ⟨h6_⟩; have n7_ : Aside0 (w.heap.size ≤ gb485) := ⟨h7_⟩; have n8_ : Aside0 (w.heap.size ≤ gb485) := ⟨h8_⟩; have n9_ : Aside0 (gb476 ≠ gb485) := ⟨h9_⟩; have n10_ : Aside0 (gb485 ≠ gb476) := ⟨h10_⟩; have n11_ : Aside0 (Below w.heap.size w w31) := ⟨h11_⟩; clear HO474 BK476 HB h0_ h1_ h2_ h3_ h4_ h5_ h6_ h7_ h8_ h9_ h10_ h11_; have HO474 := n0_; have HO479 := n1_; have HO483 := n2_; have HA_HO479 := n3_; have HA_HO483 := n4_; have BK476 := n5_; have BK485 := n6_; have GW485 := n7_; have GE485 := n8_; have NB476_485 := n9_; have NB485_476 := n10_; have HB := n11_; clear n0_ n1_ n2_ n3_ n4_ n5_ n6_ n7_ n8_ n9_ n10_ n11_; have hHeld := trivial; obtain ⟨co32, eo32⟩ := HA_HO479.out; clear HA_HO479; subst eo32; obtain ⟨co33, eo33⟩ := HA_HO483.out; clear HA_HO483; subst eo33
                refine norm_ (a' := ?_) ?_ ?_
                rotate_left
                ·simp only [putAll, Act.put, List.setIfInBounds_toArray, List.set_cons_zero, List.set_cons_succ]; rfl
                refine two_ (i := 5) (j := 11) (Ni := some 18) (Nj := some 24) (dB 15 10239) (dB 15 12255) rfl rfl rfl rfl (two_of HT_.out (by kernel_rfl)) (by decide) (by decide) (fun K hK => ?_) (fun K hK => ?_)
                ·skip
                 (have p480 : 0 ≤ ((ji5) : Int) := of_decide_eq_true zA; have q480 : (ji5) < (y477.length : Int) := of_decide_eq_true zA; obtain ⟨ad480, e480, hx480_0⟩ := Kd.at_string (Kd.R_reads' HO479.out).2.2 (ji5) p480 q480; obtain rfl : adz_v478 = ad480 := (by injection e480))
                 refine value_ (w1 := ?_) (v := ?_) (by rfl) rfl ?_ ?_
                 rotate_left 2
                 ·go_simp
                  constructor
                  ·rfl
                  ·rfl
                 clear hx480_0
                 refine hK.out _ _ trivial (fun hHeld => ?_)
                 clear hK K
                 refine norm_ (a' := ?_) ?_ ?_
                 rotate_left
                 ·show Act.put _ (some 18) _ = _
                  exact zP
                 exact norm_ zU (hJ0_5_6_13 (.slice (some adz_v478) y477.length co32, adz_v478, .slice (some adz_v482) y481.length co33, adz_v482, gb485) _ ⟨(zO HO474.out), (zO HO479.out), (zO HO483.out), ⟨_, rfl⟩, ⟨_, rfl⟩, (zK BK476.out), (zK BK485.out), GW485.out, GE485.out, NB476_485.out, NB485_476.out, zB⟩)
                ·skip
                 (have p484 : 0 ≤ ((ji8) : Int) := of_decide_eq_true zA; have q484 : (ji8) < (y481.length : Int) := of_decide_eq_true zA; obtain ⟨ad484, e484, hx484_0⟩ := Kd.at_string (Kd.R_reads' HO483.out).2.2 (ji8) p484 q484; obtain rfl : adz_v482 = ad484 := (by injection e484))
                 refine value_ (w1 := ?_) (v := ?_) (by rfl) rfl ?_ ?_
                 rotate_left 2
                 ·go_simp
                  constructor
                  ·rfl
                  ·rfl
                 clear hx484_0
                 refine hK.out _ _ trivial (fun hHeld => ?_)
                 clear hK K
                 refine norm_ (a' := ?_) ?_ ?_
                 rotate_left
                 ·show Act.put _ (some 24) _ = _
                  exact zP
                 exact norm_ zU (hJ0_6_11_13 (.slice (some adz_v478) y477.length co32, adz_v478, .slice (some adz_v482) y481.length co33, adz_v482, gb485) _ ⟨(zO HO474.out), (zO HO479.out), (zO HO483.out), ⟨_, rfl⟩, ⟨_, rfl⟩, (zK BK476.out), (zK BK485.out), GW485.out, GE485.out, NB476_485.out, NB485_476.out, zB⟩)
              ·skip
               rintro ⟨v478, adz_v478, v482, adz_v482⟩ w30 ⟨h0_, h1_, h2_, h3_, h4_, h5_, h6_⟩
               have n0_ : Aside0 (Kd.R k37 37 w30 w.heap.size (fun _ => True) (.slice Ao21 t472.length co21) t472) := ⟨h0_⟩; have n1_ : Aside0 (Kd.R Kd.string 9 w30 w.heap.size (fun k_ => some k_ ≠ (v482 : Value).ownBlock) v478 y477) := ⟨h1_⟩; have n2_ : Aside0 (Kd.R Kd.string 9 w30 w.heap.size (fun k_ => some k_ ≠ (v478 : Value).ownBlock) v482 y481) := ⟨h2_⟩; have n3_ : Aside0 (∃ c_, (v478 : Value) = .slice (some adz_v478) y477.length c_) := ⟨h3_⟩; have n4_ : Aside0 (∃ c_, (v482 : Value) = .slice (some adz_v482) y481.length c_) := ⟨h4_⟩; have n5_ : Aside0 (w30.heap[gb476]? = some (.cells #[.string (⟨#[71, 69, 84]⟩ : ByteArray), .string t468, .int .i64 t469, .string t470, .int .i64 t471, .slice Ao21 t472.length co21, .string t475] 26 (0, 0))) := ⟨h5_⟩; have n6_ : Aside0 (Below w.heap.size w w30) := ⟨h6_⟩; clear HO474 BK476 HB h0_ h1_ h2_ h3_ h4_ h5_ h6_; have HO474 := n0_; have HO479 := n1_; have HO483 := n2_; have HA_HO479 := n3_; have HA_HO483 := n4_; have BK476 := n5_; have HB := n6_; clear n0_ n1_ n2_ n3_ n4_ n5_ n6_; have hHeld := trivial; obtain ⟨co31, eo31⟩ := HA_HO479.out; clear HA_HO479; subst eo31; obtain ⟨co32, eo32⟩ := HA_HO483.out; clear HA_HO483; subst eo32
               refine norm_ (a' := ?_) ?_ ?_
               rotate_left
               ·simp only [putAll, Act.put, List.setIfInBounds_toArray, List.set_cons_zero, List.set_cons_succ]; rfl
               refine two_ (i := 5) (j := 13) (Ni := some 18) (Nj := some 8) (dB 15 4095) (dB 15 12255) rfl rfl rfl rfl (two_of HT_.out (by kernel_rfl)) (by decide) (by decide) (fun K hK => ?_) (fun K hK => ?_)
               ·skip
                (have p480 : 0 ≤ ((ji5) : Int) := of_decide_eq_true zA; have q480 : (ji5) < (y477.length : Int) := of_decide_eq_true zA; obtain ⟨ad480, e480, hx480_0⟩ := Kd.at_string (Kd.R_reads' HO479.out).2.2 (ji5) p480 q480; obtain rfl : adz_v478 = ad480 := (by injection e480))
                refine value_ (w1 := ?_) (v := ?_) (by rfl) rfl ?_ ?_
                rotate_left 2
                ·go_simp
                 constructor
                 ·rfl
                 ·rfl
                clear hx480_0
                refine hK.out _ _ trivial (fun hHeld => ?_)
                clear hK K
                refine norm_ (a' := ?_) ?_ ?_
                rotate_left
                ·show Act.put _ (some 18) _ = _
                 exact zP
                refine pure_ (i := 12) (N := some 25) (v := ?_) (a' := ?_) (dB 15 8191) rfl rfl (zT HT_.out) (fun _ _ _ h => h) (Or.inl ⟨by rfl, ?_⟩) ?_ ?_
                rotate_left
                ·intro w'; go_simp; (with_reducible rfl)
                rotate_left
                ·exact zP
                exact norm_ zU (hJ0_5_6_11 (.slice (some adz_v478) y477.length co31, adz_v478, .slice (some adz_v482) y481.length co32, adz_v482) _ ⟨(zO HO474.out), (zO HO479.out), (zO HO483.out), ⟨_, rfl⟩, ⟨_, rfl⟩, (zK BK476.out), zB⟩)
               ·skip
                refine box_step ?hg (N := 8) ?hd (cs := #[.string (⟨#[]⟩ : ByteArray), .string (⟨#[]⟩ : ByteArray)]) (t := 37) ?hr ?_; (case hd => rfl); (case hg => rfl); (case hr => exact zG)
                intro gb485 hg w33 hbox hb; have n0_ := aM (Kd.R_below (Kd.R_elderB (zO HO474.out) gb485 (Nat.le_of_eq hg.symm)) hb); have n1_ := aM (Kd.R_below (zO HO479.out) hb); have n2_ := aM (Kd.R_below (zO HO483.out) hb); have n3_ := aM (zX BK476.out hb); have n4_ := aM (below_step zB hb); have n5_ := aM (hbox); have n6_ := aM ((by rw [hg]; exact (below_size zB) : w.heap.size ≤ gb485)); have n7_ := aM ((by rw [hg]; exact (below_size zB) : w.heap.size ≤ gb485)); have n8_ := aM ((by rw [hg]; exact Nat.ne_of_lt (blk_lt (zK BK476.out)) : gb476 ≠ gb485)); have n9_ := aM ((by rw [hg]; exact Nat.ne_of_gt (blk_lt (zK BK476.out)) : gb485 ≠ gb476)); clear HO474 HO479 HO483 BK476 HB; have HO474 := n0_; have HO479 := n1_; have HO483 := n2_; have BK476 := n3_; have HB := n4_; have BK485 := n5_; have GW485 := n6_; have GE485 := n7_; have NB476_485 := n8_; have NB485_476 := n9_; clear n0_ n1_ n2_ n3_ n4_ n5_ n6_ n7_ n8_ n9_; clear hb hbox hg
                refine hK.out _ _ trivial (fun hHeld => ?_)
                clear hK K
                refine norm_ (a' := ?_) ?_ ?_
                rotate_left
                ·show Act.put _ (some 8) _ = _
                 exact zP
                exact norm_ zU (hJ0_6_11_13 (.slice (some adz_v478) y477.length co31, adz_v478, .slice (some adz_v482) y481.length co32, adz_v482, gb485) _ ⟨(by (with_reducible repeat (first | apply rA | apply rN | apply rD)); exact Kd.R_mono HO474.out (fun _ hk => hk.2)), (zO HO479.out), (zO HO483.out), ⟨_, rfl⟩, ⟨_, rfl⟩, (zK BK476.out), (zK BK485.out), GW485.out, GE485.out, NB476_485.out, NB485_476.out, zB⟩)
             ·skip
              rintro ⟨v478, adz_v478, gb485⟩ w28 ⟨h0_, h1_, h2_, h3_, h4_, h5_, h6_, h7_, h8_, h9_⟩
              have n0_ : Aside0 (Kd.R k37 37 w28 w.heap.size (fun k_ => k_ ≠ gb485) (.slice Ao21 t472.length co21) t472) := ⟨h0_⟩; have n1_ : Aside0 (Kd.R Kd.string 9 w28 w.heap.size (fun _ => True) v478 y477) := ⟨h1_⟩; have n2_ : Aside0 (∃ c_, (v478 : Value) = .slice (some adz_v478) y477.length c_) := ⟨h2_⟩; have n3_ : Aside0 (w28.heap[gb476]? = some (.cells #[.string (⟨#[71, 69, 84]⟩ : ByteArray), .string t468, .int .i64 t469, .string t470, .int .i64 t471, .slice Ao21 t472.length co21, .string t475] 26 (0, 0))) := ⟨h3_⟩; have n4_ : Aside0 (w28.heap[gb485]? = some (.cells #[.string (⟨#[]⟩ : ByteArray), .string (⟨#[]⟩ : ByteArray)] 37 (0, 0))) := ⟨h4_⟩; have n5_ : Aside0 (w.heap.size ≤ gb485) := ⟨h5_⟩; have n6_ : Aside0 (w.heap.size ≤ gb485) := ⟨h6_⟩; have n7_ : Aside0 (gb476 ≠ gb485) := ⟨h7_⟩; have n8_ : Aside0 (gb485 ≠ gb476) := ⟨h8_⟩; have n9_ : Aside0 (Below w.heap.size w w28) := ⟨h9_⟩; clear HO474 BK476 HB h0_ h1_ h2_ h3_ h4_ h5_ h6_ h7_ h8_ h9_; have HO474 := n0_; have HO479 := n1_; have HA_HO479 := n2_; have BK476 := n3_; have BK485 := n4_; have GW485 := n5_; have GE485 := n6_; have NB476_485 := n7_; have NB485_476 := n8_; have HB := n9_; clear n0_ n1_ n2_ n3_ n4_ n5_ n6_ n7_ n8_ n9_; have hHeld := trivial; obtain ⟨co29, eo29⟩ := HA_HO479.out; clear HA_HO479; subst eo29
              refine norm_ (a' := ?_) ?_ ?_
              rotate_left
              ·simp only [putAll, Act.put, List.setIfInBounds_toArray, List.set_cons_zero, List.set_cons_succ]; rfl
              refine one_ (i := 6) (N := some 19) (dB 15 9215) rfl rfl (one_of HT_.out (by kernel_rfl)) (by decide) (fun K hK => ?_)
              refine Kd.R_lit_step Kd.string _ 9 ?hg (N := 19) ?hd (xs := ([(⟨#[]⟩ : ByteArray), (⟨#[110, 111, 45, 115, 116, 111, 114, 101]⟩ : ByteArray), (⟨#[97, 44, 32, 78, 111, 45, 83, 116, 111, 114, 101]⟩ : ByteArray), (⟨#[110, 111, 45, 99, 97, 99, 104, 101]⟩ : ByteArray), (⟨#[110, 111, 45, 115, 116, 111, 114, 101, 61, 49]⟩ : ByteArray)] : List ByteArray)) (inner := [.string (⟨#[]⟩ : ByteArray), .string (⟨#[110, 111, 45, 115, 116, 111, 114, 101]⟩ : ByteArray), .string (⟨#[97, 44, 32, 78, 111, 45, 83, 116, 111, 114, 101]⟩ : ByteArray), .string (⟨#[110, 111, 45, 99, 97, 99, 104, 101]⟩ : ByteArray), .string (⟨#[110, 111, 45, 115, 116, 111, 114, 101, 61, 49]⟩ : ByteArray)]) (ok := fun _ => True) (okp := fun _ => True) ?hr ?hp (fun _ hk => hk) trivial (Below.refl _ _) (Nat.le_refl _) (by simp) ?_; (case hd => rfl); (case hg => rfl); (case hr => exact zG); (case hp => exact (Reps.one (zY (⟨#[]⟩ : ByteArray)) (Reps.one (zY (⟨#[110, 111, 45, 115, 116, 111, 114, 101]⟩ : ByteArray)) (Reps.one (zY (⟨#[97, 44, 32, 78, 111, 45, 83, 116, 111, 114, 101]⟩ : ByteArray)) (Reps.one (zY (⟨#[110, 111, 45, 99, 97, 99, 104, 101]⟩ : ByteArray)) (Reps.one (zY (⟨#[110, 111, 45, 115, 116, 111, 114, 101, 61, 49]⟩ : ByteArray)) (Reps.none _ _)))))))
              intro v482 w30 ho31 hb hg_ hnew_; clear hg_ hnew_
              (first | rw [← Ny481.out] at ho31 | (simp only [Int.reduceToNat] at ho31; rw [← Ny481.out] at ho31))
              have n0_ := aM (Kd.R_below (zO HO474.out) hb); have n1_ := aM (Kd.R_elder' (zO HO479.out) (Kd.R_base ho31) hb); have n2_ := aM (Kd.R_lower (Kd.R_new' ho31 (Kd.R_lt (zO HO479.out))) (below_size zB)); have n3_ := aM (zX BK476.out hb); have n4_ := aM (zX BK485.out hb); have n5_ := aM (below_step zB hb); clear HO474 HO479 BK476 BK485 HB; have HO474 := n0_; have HO479 := n1_; have HO483 := n2_; have BK476 := n3_; have BK485 := n4_; have HB := n5_; clear n0_ n1_ n2_ n3_ n4_ n5_; clear hb ho31; obtain ⟨Ao32, co32, eo32⟩ := Kd.R_slice HO483.out; subst eo32; obtain ⟨ado32, fo32, _⟩ := Kd.at_string (Kd.R_reads' HO483.out).2.2 0 (by decide) (by rw [Ny481.out]; simp); cases fo32
              refine hK.out _ _ trivial (fun hHeld => ?_)
              clear hK K
              refine norm_ (a' := ?_) ?_ ?_
              rotate_left
              ·show Act.put _ (some 19) _ = _
               exact zP
              refine pure_ (i := 10) (N := some 23) (v := ?_) (a' := ?_) (dB 15 10239) rfl rfl (zT HT_.out) (fun _ _ _ h => h) (Or.inl ⟨by rfl, ?_⟩) ?_ ?_
              rotate_left
              ·intro w'; go_simp; (with_reducible rfl)
              rotate_left
              ·exact zP
              exact norm_ zU (hJ0_5_6_13 (.slice (some adz_v478) y477.length co29, adz_v478, .slice (some ado32) y481.length co32, ado32, gb485) _ ⟨(zO HO474.out), (by (with_reducible repeat (first | apply rA | apply rN | apply rD)); exact Kd.R_mono HO479.out (fun _ hk => hk.2)), (by (with_reducible repeat (first | apply rA | apply rN | apply rD)); exact Kd.R_mono HO483.out (fun _ hk => hk.2)), ⟨_, rfl⟩, ⟨_, rfl⟩, (zK BK476.out), (zK BK485.out), GW485.out, GE485.out, NB476_485.out, NB485_476.out, zB⟩)
            ·skip
             rintro ⟨v478, adz_v478, v482, adz_v482⟩ w30 ⟨h0_, h1_, h2_, h3_, h4_, h5_, h6_⟩
             have n0_ : Aside0 (Kd.R k37 37 w30 w.heap.size (fun _ => True) (.slice Ao21 t472.length co21) t472) := ⟨h0_⟩; have n1_ : Aside0 (Kd.R Kd.string 9 w30 w.heap.size (fun k_ => some k_ ≠ (v482 : Value).ownBlock) v478 y477) := ⟨h1_⟩; have n2_ : Aside0 (Kd.R Kd.string 9 w30 w.heap.size (fun k_ => some k_ ≠ (v478 : Value).ownBlock) v482 y481) := ⟨h2_⟩; have n3_ : Aside0 (∃ c_, (v478 : Value) = .slice (some adz_v478) y477.length c_) := ⟨h3_⟩; have n4_ : Aside0 (∃ c_, (v482 : Value) = .slice (some adz_v482) y481.length c_) := ⟨h4_⟩; have n5_ : Aside0 (w30.heap[gb476]? = some (.cells #[.string (⟨#[71, 69, 84]⟩ : ByteArray), .string t468, .int .i64 t469, .string t470, .int .i64 t471, .slice Ao21 t472.length co21, .string t475] 26 (0, 0))) := ⟨h5_⟩; have n6_ : Aside0 (Below w.heap.size w w30) := ⟨h6_⟩; clear HO474 BK476 HB h0_ h1_ h2_ h3_ h4_ h5_ h6_; have HO474 := n0_; have HO479 := n1_; have HO483 := n2_; have HA_HO479 := n3_; have HA_HO483 := n4_; have BK476 := n5_; have HB := n6_; clear n0_ n1_ n2_ n3_ n4_ n5_ n6_; have hHeld := trivial; obtain ⟨co31, eo31⟩ := HA_HO479.out; clear HA_HO479; subst eo31; obtain ⟨co32, eo32⟩ := HA_HO483.out; clear HA_HO483; subst eo32
             refine norm_ (a' := ?_) ?_ ?_
             rotate_left
             ·simp only [putAll, Act.put, List.setIfInBounds_toArray, List.set_cons_zero, List.set_cons_succ]; rfl
             refine two_ (i := 11) (j := 13) (Ni := some 24) (Nj := some 8) (dB 15 4095) (dB 15 10239) rfl rfl rfl rfl (two_of HT_.out (by kernel_rfl)) (by decide) (by decide) (fun K hK => ?_) (fun K hK => ?_)
             ·skip
              (have p484 : 0 ≤ ((ji8) : Int) := of_decide_eq_true zA; have q484 : (ji8) < (y481.length : Int) := of_decide_eq_true zA; obtain ⟨ad484, e484, hx484_0⟩ := Kd.at_string (Kd.R_reads' HO483.out).2.2 (ji8) p484 q484; obtain rfl : adz_v482 = ad484 := (by injection e484))
              refine value_ (w1 := ?_) (v := ?_) (by rfl) rfl ?_ ?_
              rotate_left 2
              ·go_simp
               constructor
               ·rfl
               ·rfl
              clear hx484_0
              refine hK.out _ _ trivial (fun hHeld => ?_)
              clear hK K
              refine norm_ (a' := ?_) ?_ ?_
              rotate_left
              ·show Act.put _ (some 24) _ = _
               exact zP
              refine pure_ (i := 12) (N := some 25) (v := ?_) (a' := ?_) (dB 15 8191) rfl rfl (zT HT_.out) (fun _ _ _ h => h) (Or.inl ⟨by rfl, ?_⟩) ?_ ?_
              rotate_left
              ·intro w'; go_simp; (with_reducible rfl)
              rotate_left
              ·exact zP
              exact norm_ zU (hJ0_5_6_11 (.slice (some adz_v478) y477.length co31, adz_v478, .slice (some adz_v482) y481.length co32, adz_v482) _ ⟨(zO HO474.out), (zO HO479.out), (zO HO483.out), ⟨_, rfl⟩, ⟨_, rfl⟩, (zK BK476.out), zB⟩)
             ·skip
              refine box_step ?hg (N := 8) ?hd (cs := #[.string (⟨#[]⟩ : ByteArray), .string (⟨#[]⟩ : ByteArray)]) (t := 37) ?hr ?_; (case hd => rfl); (case hg => rfl); (case hr => exact zG)
              intro gb485 hg w33 hbox hb; have n0_ := aM (Kd.R_below (Kd.R_elderB (zO HO474.out) gb485 (Nat.le_of_eq hg.symm)) hb); have n1_ := aM (Kd.R_below (zO HO479.out) hb); have n2_ := aM (Kd.R_below (zO HO483.out) hb); have n3_ := aM (zX BK476.out hb); have n4_ := aM (below_step zB hb); have n5_ := aM (hbox); have n6_ := aM ((by rw [hg]; exact (below_size zB) : w.heap.size ≤ gb485)); have n7_ := aM ((by rw [hg]; exact (below_size zB) : w.heap.size ≤ gb485)); have n8_ := aM ((by rw [hg]; exact Nat.ne_of_lt (blk_lt (zK BK476.out)) : gb476 ≠ gb485)); have n9_ := aM ((by rw [hg]; exact Nat.ne_of_gt (blk_lt (zK BK476.out)) : gb485 ≠ gb476)); clear HO474 HO479 HO483 BK476 HB; have HO474 := n0_; have HO479 := n1_; have HO483 := n2_; have BK476 := n3_; have HB := n4_; have BK485 := n5_; have GW485 := n6_; have GE485 := n7_; have NB476_485 := n8_; have NB485_476 := n9_; clear n0_ n1_ n2_ n3_ n4_ n5_ n6_ n7_ n8_ n9_; clear hb hbox hg
              refine hK.out _ _ trivial (fun hHeld => ?_)
              clear hK K
              refine norm_ (a' := ?_) ?_ ?_
              rotate_left
              ·show Act.put _ (some 8) _ = _
               exact zP
              exact norm_ zU (hJ0_5_6_13 (.slice (some adz_v478) y477.length co31, adz_v478, .slice (some adz_v482) y481.length co32, adz_v482, gb485) _ ⟨(by (with_reducible repeat (first | apply rA | apply rN | apply rD)); exact Kd.R_mono HO474.out (fun _ hk => hk.2)), (zO HO479.out), (zO HO483.out), ⟨_, rfl⟩, ⟨_, rfl⟩, (zK BK476.out), (zK BK485.out), GW485.out, GE485.out, NB476_485.out, NB485_476.out, zB⟩)
           ·skip
            rintro ⟨v478, adz_v478, v482, adz_v482, gb485⟩ w31 ⟨h0_, h1_, h2_, h3_, h4_, h5_, h6_, h7_, h8_, h9_, h10_, h11_⟩
            have n0_ : Aside0 (Kd.R k37 37 w31 w.heap.size (fun k_ => k_ ≠ gb485) (.slice Ao21 t472.length co21) t472) := ⟨h0_⟩; have n1_ : Aside0 (Kd.R Kd.string 9 w31 w.heap.size (fun k_ => some k_ ≠ (v482 : Value).ownBlock) v478 y477) := ⟨h1_⟩; have n2_ : Aside0 (Kd.R Kd.string 9 w31 w.heap.size (fun k_ => some k_ ≠ (v478 : Value).ownBlock) v482 y481) := ⟨h2_⟩; have n3_ : Aside0 (∃ c_, (v478 : Value) = .slice (some adz_v478) y477.length c_) := ⟨h3_⟩; have n4_ : Aside0 (∃ c_, (v482 : Value) = .slice (some adz_v482) y481.length c_) := ⟨h4_⟩; have n5_ : Aside0 (w31.heap[gb476]? = some (.cells #[.string (⟨#[71, 69, 84]⟩ : ByteArray), .string t468, .int .i64 t469, .string t470, .int .i64 t471, .slice Ao21 t472.length co21, .string t475] 26 (0, 0))) := ⟨h5_⟩; have n6_ : Aside0 (w31.heap[gb485]? = some (.cells #[.string (⟨#[]⟩ : ByteArray), .string (⟨#[]⟩ : ByteArray)] 37 (0, 0))) := ⟨h6_⟩; have n7_ : Aside0 (w.heap.size ≤ gb485) := ⟨h7_⟩; have n8_ : Aside0 (w.heap.size ≤ gb485) := ⟨h8_⟩; have n9_ : Aside0 (gb476 ≠ gb485) := ⟨h9_⟩; have n10_ : Aside0 (gb485 ≠ gb476) := ⟨h10_⟩; have n11_ : Aside0 (Below w.heap.size w w31) := ⟨h11_⟩; clear HO474 BK476 HB h0_ h1_ h2_ h3_ h4_ h5_ h6_ h7_ h8_ h9_ h10_ h11_; have HO474 := n0_; have HO479 := n1_; have HO483 := n2_; have HA_HO479 := n3_; have HA_HO483 := n4_; have BK476 := n5_; have BK485 := n6_; have GW485 := n7_; have GE485 := n8_; have NB476_485 := n9_; have NB485_476 := n10_; have HB := n11_; clear n0_ n1_ n2_ n3_ n4_ n5_ n6_ n7_ n8_ n9_ n10_ n11_; have hHeld := trivial; obtain ⟨co32, eo32⟩ := HA_HO479.out; clear HA_HO479; subst eo32; obtain ⟨co33, eo33⟩ := HA_HO483.out; clear HA_HO483; subst eo33
            refine norm_ (a' := ?_) ?_ ?_
            rotate_left
            ·simp only [putAll, Act.put, List.setIfInBounds_toArray, List.set_cons_zero, List.set_cons_succ]; rfl
            refine one_ (i := 5) (N := some 18) (dB 15 12287) rfl rfl (one_of HT_.out (by kernel_rfl)) (by decide) (fun K hK => ?_)
            (have p480 : 0 ≤ ((ji5) : Int) := of_decide_eq_true zA; have q480 : (ji5) < (y477.length : Int) := of_decide_eq_true zA; obtain ⟨ad480, e480, hx480_0⟩ := Kd.at_string (Kd.R_reads' HO479.out).2.2 (ji5) p480 q480; obtain rfl : adz_v478 = ad480 := (by injection e480))
            refine value_ (w1 := ?_) (v := ?_) (by rfl) rfl ?_ ?_
            rotate_left 2
            ·go_simp
             constructor
             ·rfl
             ·rfl
            clear hx480_0
            refine hK.out _ _ trivial (fun hHeld => ?_)
            clear hK K
            refine norm_ (a' := ?_) ?_ ?_
            rotate_left
            ·show Act.put _ (some 18) _ = _
             exact zP
            refine pure_ (i := 12) (N := some 25) (v := ?_) (a' := ?_) (dB 15 16383) rfl rfl (zT HT_.out) (fun _ _ _ h => h) (Or.inl ⟨by rfl, ?_⟩) ?_ ?_
            rotate_left
            ·intro w'; go_simp; (with_reducible rfl)
            rotate_left
            ·exact zP
            exact norm_ zU (hJ0_5_6_11_13 (.slice (some adz_v478) y477.length co32, adz_v478, .slice (some adz_v482) y481.length co33, adz_v482, gb485) _ ⟨(zO HO474.out), (zO HO479.out), (zO HO483.out), ⟨_, rfl⟩, ⟨_, rfl⟩, (zK BK476.out), (zK BK485.out), GW485.out, GE485.out, NB476_485.out, NB485_476.out, zB⟩)
          ·skip
           rintro ⟨v478, adz_v478, v482, adz_v482, gb485⟩ w31 ⟨h0_, h1_, h2_, h3_, h4_, h5_, h6_, h7_, h8_, h9_, h10_, h11_⟩
           have n0_ : Aside0 (Kd.R k37 37 w31 w.heap.size (fun k_ => k_ ≠ gb485) (.slice Ao21 t472.length co21) t472) := ⟨h0_⟩; have n1_ : Aside0 (Kd.R Kd.string 9 w31 w.heap.size (fun k_ => some k_ ≠ (v482 : Value).ownBlock) v478 y477) := ⟨h1_⟩; have n2_ : Aside0 (Kd.R Kd.string 9 w31 w.heap.size (fun k_ => some k_ ≠ (v478 : Value).ownBlock) v482 y481) := ⟨h2_⟩; have n3_ : Aside0 (∃ c_, (v478 : Value) = .slice (some adz_v478) y477.length c_) := ⟨h3_⟩; have n4_ : Aside0 (∃ c_, (v482 : Value) = .slice (some adz_v482) y481.length c_) := ⟨h4_⟩; have n5_ : Aside0 (w31.heap[gb476]? = some (.cells #[.string (⟨#[71, 69, 84]⟩ : ByteArray), .string t468, .int .i64 t469, .string t470, .int .i64 t471, .slice Ao21 t472.length co21, .string t475] 26 (0, 0))) := ⟨h5_⟩; have n6_ : Aside0 (w31.heap[gb485]? = some (.cells #[.string (⟨#[]⟩ : ByteArray), .string (⟨#[]⟩ : ByteArray)] 37 (0, 0))) := ⟨h6_⟩; have n7_ : Aside0 (w.heap.size ≤ gb485) := ⟨h7_⟩; have n8_ : Aside0 (w.heap.size ≤ gb485) := ⟨h8_⟩; have n9_ : Aside0 (gb476 ≠ gb485) := ⟨h9_⟩; have n10_ : Aside0 (gb485 ≠ gb476) := ⟨h10_⟩; have n11_ : Aside0 (Below w.heap.size w w31) := ⟨h11_⟩; clear HO474 BK476 HB h0_ h1_ h2_ h3_ h4_ h5_ h6_ h7_ h8_ h9_ h10_ h11_; have HO474 := n0_; have HO479 := n1_; have HO483 := n2_; have HA_HO479 := n3_; have HA_HO483 := n4_; have BK476 := n5_; have BK485 := n6_; have GW485 := n7_; have GE485 := n8_; have NB476_485 := n9_; have NB485_476 := n10_; have HB := n11_; clear n0_ n1_ n2_ n3_ n4_ n5_ n6_ n7_ n8_ n9_ n10_ n11_; have hHeld := trivial; obtain ⟨co32, eo32⟩ := HA_HO479.out; clear HA_HO479; subst eo32; obtain ⟨co33, eo33⟩ := HA_HO483.out; clear HA_HO483; subst eo33
           refine norm_ (a' := ?_) ?_ ?_
           rotate_left
           ·simp only [putAll, Act.put, List.setIfInBounds_toArray, List.set_cons_zero, List.set_cons_succ]; rfl
           refine one_ (i := 11) (N := some 24) (dB 15 12287) rfl rfl (one_of HT_.out (by kernel_rfl)) (by decide) (fun K hK => ?_)
           (have p484 : 0 ≤ ((ji8) : Int) := of_decide_eq_true zA; have q484 : (ji8) < (y481.length : Int) := of_decide_eq_true zA; obtain ⟨ad484, e484, hx484_0⟩ := Kd.at_string (Kd.R_reads' HO483.out).2.2 (ji8) p484 q484; obtain rfl : adz_v482 = ad484 := (by injection e484))
           refine value_ (w1 := ?_) (v := ?_) (by rfl) rfl ?_ ?_
           rotate_left 2
           ·go_simp
            constructor
            ·rfl
            ·rfl
           clear hx484_0
           refine hK.out _ _ trivial (fun hHeld => ?_)
           clear hK K
           refine norm_ (a' := ?_) ?_ ?_
           rotate_left
           ·show Act.put _ (some 24) _ = _
            exact zP
           refine pure_ (i := 12) (N := some 25) (v := ?_) (a' := ?_) (dB 15 16383) rfl rfl (zT HT_.out) (fun _ _ _ h => h) (Or.inl ⟨by rfl, ?_⟩) ?_ ?_
           rotate_left
           ·intro w'; go_simp; (with_reducible rfl)
           rotate_left
           ·exact zP
           exact norm_ zU (hJ0_5_6_11_13 (.slice (some adz_v478) y477.length co32, adz_v478, .slice (some adz_v482) y481.length co33, adz_v482, gb485) _ ⟨(zO HO474.out), (zO HO479.out), (zO HO483.out), ⟨_, rfl⟩, ⟨_, rfl⟩, (zK BK476.out), (zK BK485.out), GW485.out, GE485.out, NB476_485.out, NB485_476.out, zB⟩)
         ·skip
          rintro ⟨v478, adz_v478, v482, adz_v482⟩ w30 ⟨h0_, h1_, h2_, h3_, h4_, h5_, h6_⟩
          have n0_ : Aside0 (Kd.R k37 37 w30 w.heap.size (fun _ => True) (.slice Ao21 t472.length co21) t472) := ⟨h0_⟩; have n1_ : Aside0 (Kd.R Kd.string 9 w30 w.heap.size (fun k_ => some k_ ≠ (v482 : Value).ownBlock) v478 y477) := ⟨h1_⟩; have n2_ : Aside0 (Kd.R Kd.string 9 w30 w.heap.size (fun k_ => some k_ ≠ (v478 : Value).ownBlock) v482 y481) := ⟨h2_⟩; have n3_ : Aside0 (∃ c_, (v478 : Value) = .slice (some adz_v478) y477.length c_) := ⟨h3_⟩; have n4_ : Aside0 (∃ c_, (v482 : Value) = .slice (some adz_v482) y481.length c_) := ⟨h4_⟩; have n5_ : Aside0 (w30.heap[gb476]? = some (.cells #[.string (⟨#[71, 69, 84]⟩ : ByteArray), .string t468, .int .i64 t469, .string t470, .int .i64 t471, .slice Ao21 t472.length co21, .string t475] 26 (0, 0))) := ⟨h5_⟩; have n6_ : Aside0 (Below w.heap.size w w30) := ⟨h6_⟩; clear HO474 BK476 HB h0_ h1_ h2_ h3_ h4_ h5_ h6_; have HO474 := n0_; have HO479 := n1_; have HO483 := n2_; have HA_HO479 := n3_; have HA_HO483 := n4_; have BK476 := n5_; have HB := n6_; clear n0_ n1_ n2_ n3_ n4_ n5_ n6_; have hHeld := trivial; obtain ⟨co31, eo31⟩ := HA_HO479.out; clear HA_HO479; subst eo31; obtain ⟨co32, eo32⟩ := HA_HO483.out; clear HA_HO483; subst eo32
          refine norm_ (a' := ?_) ?_ ?_
          rotate_left
          ·simp only [putAll, Act.put, List.setIfInBounds_toArray, List.set_cons_zero, List.set_cons_succ]; rfl
          refine one_ (i := 13) (N := some 8) (dB 15 16383) rfl rfl (one_of HT_.out (by kernel_rfl)) (by decide) (fun K hK => ?_)
          refine box_step ?hg (N := 8) ?hd (cs := #[.string (⟨#[]⟩ : ByteArray), .string (⟨#[]⟩ : ByteArray)]) (t := 37) ?hr ?_; (case hd => rfl); (case hg => rfl); (case hr => exact zG)
          intro gb485 hg w33 hbox hb; have n0_ := aM (Kd.R_below (Kd.R_elderB (zO HO474.out) gb485 (Nat.le_of_eq hg.symm)) hb); have n1_ := aM (Kd.R_below (zO HO479.out) hb); have n2_ := aM (Kd.R_below (zO HO483.out) hb); have n3_ := aM (zX BK476.out hb); have n4_ := aM (below_step zB hb); have n5_ := aM (hbox); have n6_ := aM ((by rw [hg]; exact (below_size zB) : w.heap.size ≤ gb485)); have n7_ := aM ((by rw [hg]; exact (below_size zB) : w.heap.size ≤ gb485)); have n8_ := aM ((by rw [hg]; exact Nat.ne_of_lt (blk_lt (zK BK476.out)) : gb476 ≠ gb485)); have n9_ := aM ((by rw [hg]; exact Nat.ne_of_gt (blk_lt (zK BK476.out)) : gb485 ≠ gb476)); clear HO474 HO479 HO483 BK476 HB; have HO474 := n0_; have HO479 := n1_; have HO483 := n2_; have BK476 := n3_; have HB := n4_; have BK485 := n5_; have GW485 := n6_; have GE485 := n7_; have NB476_485 := n8_; have NB485_476 := n9_; clear n0_ n1_ n2_ n3_ n4_ n5_ n6_ n7_ n8_ n9_; clear hb hbox hg
          refine hK.out _ _ trivial (fun hHeld => ?_)
          clear hK K
          refine norm_ (a' := ?_) ?_ ?_
          rotate_left
          ·show Act.put _ (some 8) _ = _
           exact zP
          exact norm_ zU (hJ0_5_6_11_13 (.slice (some adz_v478) y477.length co31, adz_v478, .slice (some adz_v482) y481.length co32, adz_v482, gb485) _ ⟨(by (with_reducible repeat (first | apply rA | apply rN | apply rD)); exact Kd.R_mono HO474.out (fun _ hk => hk.2)), (zO HO479.out), (zO HO483.out), ⟨_, rfl⟩, ⟨_, rfl⟩, (zK BK476.out), (zK BK485.out), GW485.out, GE485.out, NB476_485.out, NB485_476.out, zB⟩)
        rintro ⟨v478, adz_v478, v482, adz_v482, gb485⟩ w31 ⟨h0_, h1_, h2_, h3_, h4_, h5_, h6_, h7_, h8_, h9_, h10_, h11_⟩
        have n0_ : Aside0 (Kd.R k37 37 w31 w.heap.size (fun k_ => k_ ≠ gb485) (.slice Ao21 t472.length co21) t472) := ⟨h0_⟩; have n1_ : Aside0 (Kd.R Kd.string 9 w31 w.heap.size (fun k_ => some k_ ≠ (v482 : Value).ownBlock) v478 y477) := ⟨h1_⟩; have n2_ : Aside0 (Kd.R Kd.string 9 w31 w.heap.size (fun k_ => some k_ ≠ (v478 : Value).ownBlock) v482 y481) := ⟨h2_⟩; have n3_ : Aside0 (∃ c_, (v478 : Value) = .slice (some adz_v478) y477.length c_) := ⟨h3_⟩; have n4_ : Aside0 (∃ c_, (v482 : Value) = .slice (some adz_v482) y481.length c_) := ⟨h4_⟩; have n5_ : Aside0 (w31.heap[gb476]? = some (.cells #[.string (⟨#[71, 69, 84]⟩ : ByteArray), .string t468, .int .i64 t469, .string t470, .int .i64 t471, .slice Ao21 t472.length co21, .string t475] 26 (0, 0))) := ⟨h5_⟩; have n6_ : Aside0 (w31.heap[gb485]? = some (.cells #[.string (⟨#[]⟩ : ByteArray), .string (⟨#[]⟩ : ByteArray)] 37 (0, 0))) := ⟨h6_⟩; have n7_ : Aside0 (w.heap.size ≤ gb485) := ⟨h7_⟩; have n8_ : Aside0 (w.heap.size ≤ gb485) := ⟨h8_⟩; have n9_ : Aside0 (gb476 ≠ gb485) := ⟨h9_⟩; have n10_ : Aside0 (gb485 ≠ gb476) := ⟨h10_⟩; have n11_ : Aside0 (Below w.heap.size w w31) := ⟨h11_⟩; clear HO474 BK476 HB h0_ h1_ h2_ h3_ h4_ h5_ h6_ h7_ h8_ h9_ h10_ h11_; have HO474 := n0_; have HO479 := n1_; have HO483 := n2_; have HA_HO479 := n3_; have HA_HO483 := n4_; have BK476 := n5_; have BK485 := n6_; have GW485 := n7_; have GE485 := n8_; have NB476_485 := n9_; have NB485_476 := n10_; have HB := n11_; clear n0_ n1_ n2_ n3_ n4_ n5_ n6_ n7_ n8_ n9_ n10_ n11_; have hHeld := trivial; obtain ⟨co32, eo32⟩ := HA_HO479.out; clear HA_HO479; subst eo32; obtain ⟨co33, eo33⟩ := HA_HO483.out; clear HA_HO483; subst eo33
        refine norm_ (a' := ?_) ?_ ?_
        rotate_left
        ·simp only [putAll, Act.put, List.setIfInBounds_toArray, List.set_cons_zero, List.set_cons_succ]; rfl
        refine one_ (i := 14) (N := none) (dB 15 32767) rfl rfl (one_of HT_.out (by kernel_rfl)) (by decide) (fun K hK => ?_)
        have hs34 : w31.cell? ⟨gb485, 0, none⟩ = some (.string (⟨#[]⟩ : ByteArray)) := (blk_cell BK485.out 0).trans rfl; have hfs34 := blk_frozen BK485.out 0; have hns34_0 := NB476_485.out; have hms34_0 := NB485_476.out; have hs35 : w31.cell? ⟨gb485, 1, none⟩ = some (.string (⟨#[]⟩ : ByteArray)) := (blk_cell BK485.out 1).trans rfl; have hfs35 := blk_frozen BK485.out 1; have hns35_0 := NB476_485.out; have hms35_0 := NB485_476.out
        refine skip_ (w1 := ?_) (by rfl) rfl ?_ ?_
        rotate_left
        ·go_simp; rfl
        refine hK.out _ _ trivial (fun hHeld => ?_)
        clear hK K
        refine done_ (done_of HT_.out (by kernel_rfl)) ?_
        have hnb36 := NB476_485.out; have hnc36 := NB485_476.out; obtain ⟨_, _, _, _, _, _, _, _, _, _, _, _, _, _⟩ := cz7 BK476.out; obtain ⟨_, _, _, _⟩ := cz2 BK485.out
        try go_wp2_with (first | ((with_reducible refine gate_builtin (b := .append) (xs := #[.tmp 28, .tmp 30]) rfl ?_); at_builtin; refine Kd.R_append k37 (w0 := w) w.heap.size rfl (.tmp 28) (.tmp 30) 22 37 (.agg #[(.string ⟨#[]⟩), (.string ⟨#[]⟩)]) 32 rfl Tryz.underlying22 info37 rfl (by decide) (by omega) (.slice Ao21 t472.length co21) t472 (⟨rdOf ByteArray.empty y477 (ji5), rdOf ByteArray.empty y481 (ji8)⟩ : S37) [.string (rdOf ByteArray.empty y477 (ji5)), .string (rdOf ByteArray.empty y481 (ji8))] (fun k_ => k_ ≠ gb485) (fun _ => False) rfl (by first | (go_simp; done) | (go_simp; rfl)) ?aP (fun _ hk => hk.elim) ?aF ?aO ?aB ?aS ?aL ?_; (case aP => exact k37_mkM _ _ _ (⟨rdOf ByteArray.empty y477 (ji5), rdOf ByteArray.empty y481 (ji8)⟩ : S37)); (case aB => exact zB); (case aF => exact (fun k_ hk => Kd.freshB (g := gb485) (o := .cells #[.string (rdOf ByteArray.empty y477 (ji5)), .string (rdOf ByteArray.empty y481 (ji8))] 37 (0, 0)) (zQ2 BK485.out) k_ hk)); (case aO => exact (by (with_reducible repeat (first | apply rA | apply rN | apply rD)); exact Kd.R_mono (Kd.R_far (p := ⟨gb485, 1, none⟩) (Kd.R_far (p := ⟨gb485, 0, none⟩) (Kd.R_mono HO474.out (fun k_ hk => (⟨hk, hk⟩ : _ ∧ k_ ≠ gb485))) (fun _ hk => hk.2) (.string (rdOf ByteArray.empty y477 (ji5)))) (fun _ hk => hk.2) (.string (rdOf ByteArray.empty y481 (ji8)))) (fun _ hk => hk.1))); (case aS => exact (below_size zB)); (case aL => have := LMc11.out; omega); intro v487 w39 ho hb hg hat; rw [← Ny486.out] at ho; have n0_ := aM (blk_grown (g := gb476) (o := .cells #[.string (⟨#[71, 69, 84]⟩ : ByteArray), .string t468, .int .i64 t469, .string t470, .int .i64 t471, .slice Ao21 t472.length co21, .string t475] 26 (0, 0)) (zF BK476.out) hg (Kd.R_ne HO474.out BK476.out (by decide))); have n1_ := aM (Kd.R_over' (zO (rF2 HO479.out BK485.out (by decide))) (Kd.R_typed (by (with_reducible repeat (first | apply rA | apply rN | apply rD)); exact (Kd.R_mono (Kd.R_far (p := ⟨gb485, 1, none⟩) (Kd.R_far (p := ⟨gb485, 0, none⟩) (Kd.R_mono HO474.out (fun k_ hk => (⟨hk, hk⟩ : _ ∧ k_ ≠ gb485))) (fun _ hk => hk.2) (.string (rdOf ByteArray.empty y477 (ji5)))) (fun _ hk => hk.2) (.string (rdOf ByteArray.empty y481 (ji8)))) (fun _ h_ => h_.1)))) (by decide) hg); have n2_ := aM (Kd.R_over' (zO (rF2 HO483.out BK485.out (by decide))) (Kd.R_typed (by (with_reducible repeat (first | apply rA | apply rN | apply rD)); exact (Kd.R_mono (Kd.R_far (p := ⟨gb485, 1, none⟩) (Kd.R_far (p := ⟨gb485, 0, none⟩) (Kd.R_mono HO474.out (fun k_ hk => (⟨hk, hk⟩ : _ ∧ k_ ≠ gb485))) (fun _ hk => hk.2) (.string (rdOf ByteArray.empty y477 (ji5)))) (fun _ hk => hk.2) (.string (rdOf ByteArray.empty y481 (ji8)))) (fun _ h_ => h_.1)))) (by decide) hg); have n3_ := aM (blk_grown (g := gb485) (o := .cells #[.string (rdOf ByteArray.empty y477 (ji5)), .string (rdOf ByteArray.empty y481 (ji8))] 37 (0, 0)) (zQ2 BK485.out) hg (Kd.R_away HO474.out (fun _ hk => hk))); have n4_ := aM (hb); have n5_ := aM (ho); clear BK476 HO479 HO483 BK485 HB HO474; have BK476 := n0_; have HO479 := n1_; have HO483 := n2_; have BK485 := n3_; have HB := n4_; have HO488 := n5_; clear n0_ n1_ n2_ n3_ n4_ n5_; clear ho hb hg hat; obtain ⟨Ao40, co40, eo40⟩ := Kd.R_slice HO488.out; subst eo40; obtain ⟨_, _, _, _, _, _, _, _, _, _, _, _, _, _⟩ := cz7 BK476.out))
        have n0_ : Aside0 (Kd.R Kd.string 9 (w39.setCell ⟨gb476, 5, none⟩ (.slice Ao40 y486.length co40)) w.heap.size (fun k_ => some k_ ≠ (.slice (some adz_v482) y481.length co33 : Value).ownBlock) (.slice (some adz_v478) y477.length co32) y477) := ⟨by (with_reducible repeat (first | apply rA | apply rN | apply rD)); exact Kd.R_mono (Kd.R_far (p := ⟨gb476, 5, none⟩) (Kd.R_types HO479.out BK476.out (by decide)) (fun _ hk => hk.2) (.slice Ao40 y486.length co40)) (fun _ hk => hk.1)⟩; have n1_ : Aside0 (Kd.R Kd.string 9 (w39.setCell ⟨gb476, 5, none⟩ (.slice Ao40 y486.length co40)) w.heap.size (fun k_ => some k_ ≠ (.slice (some adz_v478) y477.length co32 : Value).ownBlock) (.slice (some adz_v482) y481.length co33) y481) := ⟨by (with_reducible repeat (first | apply rA | apply rN | apply rD)); exact Kd.R_mono (Kd.R_far (p := ⟨gb476, 5, none⟩) (Kd.R_types HO483.out BK476.out (by decide)) (fun _ hk => hk.2) (.slice Ao40 y486.length co40)) (fun _ hk => hk.1)⟩; have n2_ : Aside0 (Kd.R k37 37 (w39.setCell ⟨gb476, 5, none⟩ (.slice Ao40 y486.length co40)) w.heap.size (fun k_ => k_ ≠ gb485) (.slice Ao40 y486.length co40) y486) := ⟨by (with_reducible repeat (first | apply rA | apply rN | apply rD)); exact Kd.R_mono (Kd.R_far (p := ⟨gb476, 5, none⟩) (Kd.R_types HO488.out BK476.out (by decide)) (fun _ hk => hk.2) (.slice Ao40 y486.length co40)) (fun _ hk => hk.1)⟩; have n3_ : Aside0 ((w39.setCell ⟨gb476, 5, none⟩ (.slice Ao40 y486.length co40)).heap[gb476]? = some (.cells #[.string (⟨#[71, 69, 84]⟩ : ByteArray), .string t468, .int .i64 t469, .string t470, .int .i64 t471, .slice Ao40 y486.length co40, .string t475] 26 (0, 0))) := ⟨by (with_reducible repeat (first | refine bN ?_ _ | refine bD ?_ | refine bA ?_ _)); refine blk_put (cs := #[.string (⟨#[71, 69, 84]⟩ : ByteArray), .string t468, .int .i64 t469, .string t470, .int .i64 t471, .slice Ao21 t472.length co21, .string t475]) ?_ 5 _ rfl; (with_reducible repeat (first | refine bN ?_ _ | refine bD ?_ | refine bA ?_ _)); exact BK476.out⟩; have n4_ : Aside0 ((w39.setCell ⟨gb476, 5, none⟩ (.slice Ao40 y486.length co40)).heap[gb485]? = some (.cells #[.string (rdOf ByteArray.empty y477 (ji5)), .string (rdOf ByteArray.empty y481 (ji8))] 37 (0, 0))) := ⟨zF BK485.out⟩; have n5_ : Aside0 (Below w.heap.size w (w39.setCell ⟨gb476, 5, none⟩ (.slice Ao40 y486.length co40))) := ⟨zB⟩
        (try clear HO479)
        (try clear HO483)
        (try clear HO488)
        (try clear BK476)
        (try clear BK485)
        (try clear HB)
        generalize (w39.setCell ⟨gb476, 5, none⟩ (.slice Ao40 y486.length co40)) = w42 at n0_ n1_ n2_ n3_ n4_ n5_ ⊢; have HO479 := n0_; have HO483 := n1_; have HO488 := n2_; have BK476 := n3_; have BK485 := n4_; have HB := n5_; clear n0_ n1_ n2_ n3_ n4_ n5_; have n0_ := aM (rD HO479.out); have n1_ := aM (rD HO483.out); have n2_ := aM (rD HO488.out); have n3_ := aM (bD BK476.out); have n4_ := aM (bD BK485.out); have n5_ := aM (lD HB.out); clear HO479 HO483 HO488 BK476 BK485 HB; have HO479 := n0_; have HO483 := n1_; have HO488 := n2_; have BK476 := n3_; have BK485 := n4_; have HB := n5_; clear n0_ n1_ n2_ n3_ n4_ n5_
        refine start_ (n := 18) (S := fun w' => w'.cell? ⟨gb476, 0, none⟩ = some (.string (⟨#[71, 69, 84]⟩ : ByteArray)) ∧ w'.cell? ⟨gb476, 1, none⟩ = some (.string t468) ∧ w'.cell? ⟨gb476, 2, none⟩ = some (.int .i64 t469) ∧ w'.cell? ⟨gb476, 3, none⟩ = some (.string t470) ∧ w'.cell? ⟨gb476, 4, none⟩ = some (.int .i64 t471) ∧ w'.cell? ⟨gb476, 5, none⟩ = some (.slice Ao40 y486.length co40) ∧ w'.cell? ⟨gb476, 6, none⟩ = some (.string t475)) (ds := []) (dB 18 0) (by kernel_rfl) rfl rfl ⟨(blk_cell BK476.out 0).trans rfl, (blk_cell BK476.out 1).trans rfl, (blk_cell BK476.out 2).trans rfl, (blk_cell BK476.out 3).trans rfl, (blk_cell BK476.out 4).trans rfl, (blk_cell BK476.out 5).trans rfl, (blk_cell BK476.out 6).trans rfl⟩ (fun hHeld => ?_); refine with_tabW lockagelaw16_KeyShared.tab5 lockagelaw16_KeyShared.bits5 (fun HT_ HW_ => ?_)
        generalize w42.drew = w43 at HO479 HO483 HO488 BK476 BK485 HB hHeld ⊢
        refine one_ (i := 0) (N := some 34) (dB 18 1) rfl rfl (one_of HT_.out (by kernel_rfl)) (by decide) (fun K hK => ?_)
        refine goes_ Tryz.func9 (by kernel_rfl) rfl #[] (by rfl) rfl rfl zL ?_
        with_reducible refine (lockagelaw16_awake.calls k  true _ A12.out).mono ?_
        rintro e w44 ⟨rfl, hb⟩
        refine ⟨_, rfl, ?_⟩
        have n0_ := aM (Kd.R_below (zO HO479.out) hb); have n1_ := aM (Kd.R_below (zO HO483.out) hb); have n2_ := aM (Kd.R_below (zO HO488.out) hb); have n3_ := aM (zX BK476.out hb); have n4_ := aM (zX BK485.out hb); have n5_ := aM (below_step zB hb); clear HO479 HO483 HO488 BK476 BK485 HB; have HO479 := n0_; have HO483 := n1_; have HO488 := n2_; have BK476 := n3_; have BK485 := n4_; have HB := n5_; clear n0_ n1_ n2_ n3_ n4_ n5_
        (try clear hb)
        (try clear hb2)
        (try clear hk)
        (try clear hi)
        refine hK.out _ _ ⟨(blk_cell BK476.out 0).trans rfl, (blk_cell BK476.out 1).trans rfl, (blk_cell BK476.out 2).trans rfl, (blk_cell BK476.out 3).trans rfl, (blk_cell BK476.out 4).trans rfl, (blk_cell BK476.out 5).trans rfl, (blk_cell BK476.out 6).trans rfl⟩ (fun hHeld => ?_)
        clear hK K
        refine norm_ (a' := ?_) ?_ ?_
        rotate_left
        ·show Act.put _ (some 34) _ = _
         exact zP
        refine pure_ (i := 1) (N := some 35) (v := ?_) (a' := ?_) (dB 18 3) rfl rfl (zT HT_.out) (fun _ _ _ h => h) (Or.inl ⟨by rfl, ?_⟩) ?_ ?_
        rotate_left
        ·intro w'; go_simp; (with_reducible rfl)
        rotate_left
        ·exact zP
        refine take_ (i := 2) (N := some 36) (v := ?_) (a' := ?_) (dB 18 7) rfl rfl (take_ofW HT_.out HW_.out (by kernel_rfl)) (fun _ _ _ h => h) (Or.inl ⟨by rfl, ?_⟩) hHeld ?_ ?_
        rotate_left
        ·rintro w' ⟨s0, s1, s2, s3, s4, s5, s6⟩
         go_simp; (with_reducible rfl)
        rotate_left
        ·exact zP
        refine take_ (i := 4) (N := some 38) (v := ?_) (a' := ?_) (dB 18 23) rfl rfl (take_ofW HT_.out HW_.out (by kernel_rfl)) (fun _ _ _ h => h) (Or.inl ⟨by rfl, ?_⟩) hHeld ?_ ?_
        rotate_left
        ·rintro w' ⟨s0, s1, s2, s3, s4, s5, s6⟩
         go_simp; (with_reducible rfl)
        rotate_left
        ·exact zP
        refine one_ (i := 3) (N := some 37) (dB 18 31) rfl rfl (one_of HT_.out (by kernel_rfl)) (by decide) (fun K hK => ?_)
        refine goes_ Tryz.func15 (by kernel_rfl) rfl #[.agg #[.string (⟨#[71, 69, 84]⟩ : ByteArray), .string t468, .int .i64 t469, .string t470, .int .i64 t471, .slice Ao40 y486.length co40, .string t475]] (by rfl) rfl rfl zL ?_
        with_reducible refine (key_Shared.calls k (⟨#[71, 69, 84]⟩ : ByteArray) t468 t469 t470 t471 _ _ y486 t475 t490 _ ?side1 ?side2 A14.out).mono ?_
        (case side1 => exact zC ((Kd.R_reads' HO488.out).2.2))
        (case side2 => exact (Kd.R_reads' HO488.out).2.1)
        rintro e w45 ⟨rfl, hb⟩
        refine ⟨_, rfl, ?_⟩
        have n0_ := aM (Kd.R_below (zO HO479.out) hb); have n1_ := aM (Kd.R_below (zO HO483.out) hb); have n2_ := aM (Kd.R_below (zO HO488.out) hb); have n3_ := aM (zX BK476.out hb); have n4_ := aM (zX BK485.out hb); have n5_ := aM (below_step zB hb); clear HO479 HO483 HO488 BK476 BK485 HB; have HO479 := n0_; have HO483 := n1_; have HO488 := n2_; have BK476 := n3_; have BK485 := n4_; have HB := n5_; clear n0_ n1_ n2_ n3_ n4_ n5_
        (try clear hb)
        (try clear hb2)
        (try clear hk)
        (try clear hi)
        refine hK.out _ _ ⟨(blk_cell BK476.out 0).trans rfl, (blk_cell BK476.out 1).trans rfl, (blk_cell BK476.out 2).trans rfl, (blk_cell BK476.out 3).trans rfl, (blk_cell BK476.out 4).trans rfl, (blk_cell BK476.out 5).trans rfl, (blk_cell BK476.out 6).trans rfl⟩ (fun hHeld => ?_)
        clear hK K
        refine norm_ (a' := ?_) ?_ ?_
        rotate_left
        ·show Act.put _ (some 37) _ = _
         exact zP
        refine one_ (i := 5) (N := some 39) (dB 18 63) rfl rfl (one_of HT_.out (by kernel_rfl)) (by decide) (fun K hK => ?_)
        refine goes_ Tryz.func16 (by kernel_rfl) rfl #[.agg #[.string (⟨#[71, 69, 84]⟩ : ByteArray), .string t468, .int .i64 t469, .string t470, .int .i64 t471, .slice Ao40 y486.length co40, .string t475]] (by rfl) rfl rfl zL ?_
        with_reducible refine (lockageref16_Shared.calls k (⟨#[71, 69, 84]⟩ : ByteArray) t468 t469 t470 t471 _ _ y486 t475 t491 _ ?side1 ?side2 A15.out).mono ?_
        (case side1 => exact zC ((Kd.R_reads' HO488.out).2.2))
        (case side2 => exact (Kd.R_reads' HO488.out).2.1)
        rintro e w46 ⟨rfl, hb⟩
        refine ⟨_, rfl, ?_⟩
        have n0_ := aM (Kd.R_below (zO HO479.out) hb); have n1_ := aM (Kd.R_below (zO HO483.out) hb); have n2_ := aM (Kd.R_below (zO HO488.out) hb); have n3_ := aM (zX BK476.out hb); have n4_ := aM (zX BK485.out hb); have n5_ := aM (below_step zB hb); clear HO479 HO483 HO488 BK476 BK485 HB; have HO479 := n0_; have HO483 := n1_; have HO488 := n2_; have BK476 := n3_; have BK485 := n4_; have HB := n5_; clear n0_ n1_ n2_ n3_ n4_ n5_
        (try clear hb)
        (try clear hb2)
        (try clear hk)
        (try clear hi)
        refine hK.out _ _ ⟨(blk_cell BK476.out 0).trans rfl, (blk_cell BK476.out 1).trans rfl, (blk_cell BK476.out 2).trans rfl, (blk_cell BK476.out 3).trans rfl, (blk_cell BK476.out 4).trans rfl, (blk_cell BK476.out 5).trans rfl, (blk_cell BK476.out 6).trans rfl⟩ (fun hHeld => ?_)
        clear hK K
        refine norm_ (a' := ?_) ?_ ?_
        rotate_left
        ·show Act.put _ (some 39) _ = _
         exact zP
        refine pure_ (i := 6) (N := some 40) (v := ?_) (a' := ?_) (dB 18 127) rfl rfl (zT HT_.out) (fun _ _ _ h => h) (Or.inl ⟨by rfl, ?_⟩) ?_ ?_
        rotate_left
        ·intro w'; go_simp; (with_reducible rfl)
        rotate_left
        ·exact zP
        refine pure_ (i := 7) (N := some 41) (v := ?_) (a' := ?_) (dB 18 255) rfl rfl (zT HT_.out) (fun _ _ _ h => h) (Or.inl ⟨by rfl, ?_⟩) ?_ ?_
        rotate_left
        ·intro w'; go_simp; (with_reducible rfl)
        rotate_left
        ·exact zP
        refine pure_ (i := 8) (N := some 42) (v := ?_) (a' := ?_) (dB 18 511) rfl rfl (zT HT_.out) (fun _ _ _ h => h) (Or.inl ⟨by rfl, ?_⟩) ?_ ?_
        rotate_left
        ·intro w'; go_simp; (with_reducible rfl)
        rotate_left
        ·exact zP
        refine pure_ (i := 11) (N := some 45) (v := ?_) (a' := ?_) (dB 18 2559) rfl rfl (zT HT_.out) (fun _ _ _ h => h) (Or.inl ⟨by rfl, ?_⟩) ?_ ?_
        rotate_left
        ·intro w'; go_simp; (with_reducible rfl)
        rotate_left
        ·exact zP
        refine pure_ (i := 12) (N := some 46) (v := ?_) (a' := ?_) (dB 18 6655) rfl rfl (zT HT_.out) (fun _ _ _ h => h) (Or.inl ⟨by rfl, ?_⟩) ?_ ?_
        rotate_left
        ·intro w'; go_simp; (with_reducible rfl)
        rotate_left
        ·exact zP
        refine take_ (i := 9) (N := some 43) (v := ?_) (a' := ?_) (dB 18 7167) rfl rfl (take_ofW HT_.out HW_.out (by kernel_rfl)) (fun _ _ _ h => h) (Or.inl ⟨by rfl, ?_⟩) hHeld ?_ ?_
        rotate_left
        ·rintro w' ⟨s0, s1, s2, s3, s4, s5, s6⟩
         go_simp; (with_reducible rfl)
        rotate_left
        ·exact zP
        refine take_ (i := 10) (N := some 44) (v := ?_) (a' := ?_) (dB 18 8191) rfl rfl (take_ofW HT_.out HW_.out (by kernel_rfl)) (fun _ _ _ h => h) (Or.inl ⟨by rfl, ?_⟩) hHeld ?_ ?_
        rotate_left
        ·rintro w' ⟨s0, s1, s2, s3, s4, s5, s6⟩
         go_simp; (with_reducible rfl)
        rotate_left
        ·exact zP
        refine take_ (i := 13) (N := some 47) (v := ?_) (a' := ?_) (dB 18 16383) rfl rfl (take_ofW HT_.out HW_.out (by kernel_rfl)) (fun _ _ _ h => h) (Or.inl ⟨by rfl, ?_⟩) hHeld ?_ ?_
        rotate_left
        ·rintro w' ⟨s0, s1, s2, s3, s4, s5, s6⟩
         go_simp; (with_reducible rfl)
        rotate_left
        ·exact zP
        refine pure_ (i := 14) (N := some 48) (v := ?_) (a' := ?_) (dB 18 32767) rfl rfl (zT HT_.out) (fun _ _ _ h => h) (Or.inl ⟨by rfl, ?_⟩) ?_ ?_
        rotate_left
        ·intro w'; go_simp; (with_reducible rfl)
        rotate_left
        ·exact zP
        refine one_ (i := 15) (N := some 49) (dB 18 65535) rfl rfl (one_of HT_.out (by kernel_rfl)) (by decide) (fun K hK => ?_)
        refine goes_ Tryz.func11 (by kernel_rfl) rfl #[.agg #[.string (⟨#[71, 69, 84]⟩ : ByteArray), .string t468, .int .i64 t469, .string t470, .int .i64 t471, .slice Ao40 y486.length co40, .string t475], .agg #[.string (⟨#[71, 69, 84]⟩ : ByteArray), .string t468, .int .i64 t469, .string t470, .int .i64 t471, .slice Ao40 y486.length co40, .string t475], .agg #[.string (⟨#[]⟩ : ByteArray), .string (⟨#[]⟩ : ByteArray), .int .i64 0, .string (⟨#[]⟩ : ByteArray), .int .i64 0, .slice Ao40 y486.length co40], .slice none 0 0] (by rfl) rfl rfl zL ?_
        refine (lockagelaw16_same.calls k (⟨#[71, 69, 84]⟩ : ByteArray) t468 t469 t470 t471 _ _ y486 t475 (⟨#[71, 69, 84]⟩ : ByteArray) t468 t469 t470 t471 _ _ y486 t475 (⟨#[]⟩ : ByteArray) (⟨#[]⟩ : ByteArray) 0 (⟨#[]⟩ : ByteArray) 0 _ _ y486 _ _ ([] : List ByteArray) t492 _ ?side1 ?side2 ?side3 ?side4 ?side5 ?side6 ?side7 ?side8 A17.out).mono ?_
        (case side1 => exact zC ((Kd.R_reads' HO488.out).2.2))
        (case side2 => exact (Kd.R_reads' HO488.out).2.1)
        (case side3 => exact zC ((Kd.R_reads' HO488.out).2.2))
        (case side4 => exact (Kd.R_reads' HO488.out).2.1)
        (case side5 => exact zC ((Kd.R_reads' HO488.out).2.2))
        (case side6 => exact (Kd.R_reads' HO488.out).2.1)
        (case side7 => exact Kd.C_nil _ _)
        (case side8 => exact Nat.le_refl _)
        rintro e w47 ⟨rfl, hb⟩
        refine ⟨_, rfl, ?_⟩
        have n0_ := aM (Kd.R_below (zO HO479.out) hb); have n1_ := aM (Kd.R_below (zO HO483.out) hb); have n2_ := aM (Kd.R_below (zO HO488.out) hb); have n3_ := aM (zX BK476.out hb); have n4_ := aM (zX BK485.out hb); have n5_ := aM (below_step zB hb); clear HO479 HO483 HO488 BK476 BK485 HB; have HO479 := n0_; have HO483 := n1_; have HO488 := n2_; have BK476 := n3_; have BK485 := n4_; have HB := n5_; clear n0_ n1_ n2_ n3_ n4_ n5_
        (try clear hb)
        (try clear hb2)
        (try clear hk)
        (try clear hi)
        refine hK.out _ _ ⟨(blk_cell BK476.out 0).trans rfl, (blk_cell BK476.out 1).trans rfl, (blk_cell BK476.out 2).trans rfl, (blk_cell BK476.out 3).trans rfl, (blk_cell BK476.out 4).trans rfl, (blk_cell BK476.out 5).trans rfl, (blk_cell BK476.out 6).trans rfl⟩ (fun hHeld => ?_)
        clear hK K
        refine norm_ (a' := ?_) ?_ ?_
        rotate_left
        ·show Act.put _ (some 49) _ = _
         exact zP
        refine pure_ (i := 16) (N := some 50) (v := ?_) (a' := ?_) (dB 18 131071) rfl rfl (zT HT_.out) (fun _ _ _ h => h) (Or.inl ⟨by rfl, ?_⟩) ?_ ?_
        rotate_left
        ·intro w'; go_simp; (with_reducible rfl)
        rotate_left
        ·exact zP
        refine pure_ (i := 17) (N := some 6) (v := ?_) (a' := ?_) (dB 18 262143) rfl rfl (zT HT_.out) (fun _ _ _ h => h) (Or.inl ⟨by rfl, ?_⟩) ?_ ?_
        rotate_left
        ·intro w'; go_simp; (with_reducible rfl)
        rotate_left
        ·exact zP
        refine done_ (done_of HT_.out (by kernel_rfl)) ?_
        try go_wp2
        go_ret
        exact ⟨by first | rfl | (simp [errW_none, errW_some] <;> rfl) | (simp only [← hji5, ← hji8]; first | rfl | (simp [errW_none, errW_some] <;> rfl)) | (simp [*, errW_none, errW_some] <;> rfl), zB⟩
       ·rw [if_neg c16] at H; (have c16b0 : (t490 == t491) = false := by simpa using c16)
        (try (have c16b1 : decide (t490 = t491) = false := by simpa using c16))
        (try (have c16b2 : (t490 == t491) = false := by simpa using c16))
        (try (have c16b3 : ¬ (t490 = t491) := by simpa using c16))
        clear c16; exact absurd H (by simp)
      ·replace c13 := Bool.eq_false_iff.mpr c13; subst c13; (have H1 : (none) = some r := by rw [if_neg (show ¬ (false = true) by decide)] at H; exact H); clear H; have H := H1; clear H1; exact absurd H (by simp)
     ·rw [if_neg c11] at H; exact absurd H (by simp)
    ·rw [if_neg c10] at H; exact absurd H (by simp)
   ·rw [if_neg c9] at H; exact absurd H (by simp)
  ·rw [if_neg c7] at H; exact absurd H (by simp)
 ·rw [if_neg c6] at H; exact absurd H (by simp)

def lockagelaw16_KeyShared.Pure : Prop := ∀ (l0 : List Int) (a1 : Int) (a2 : Int), l0.length ≤ maxLen → l0.length * 1 ≤ 140737488351232 → (∀ x ∈ l0, (Lit.int .u8 x).wf = true) → (Lit.int .u8 a1).wf = true → (Lit.int .u8 a2).wf = true → ∃ k, lockagelaw16_KeyShared.f k l0 a1 a2 = some true
theorem lockagelaw16_KeyShared.walk (P : lockagelaw16_KeyShared.Pure) (a0 : Option Addr) (len0 cap0 : Nat) (z0 : List Int) (a1 : Int) (a2 : Int) (w : World) (w0 : (a0 = none ∧ len0 = 0 ∧ cap0 = 0 ∧ z0 = []) ∨ ∃ x, a0 = some x ∧ len0 ≤ cap0 ∧ cap0 ≤ maxLen ∧ z0.length = cap0 ∧ (∀ i, i < z0.length → w.cell? (x.add i) = some (.int .u8 (z0.getD i 0))) ∧ ∀ n ∈ z0, (Lit.int .u8 n).wf = true) (y0 : len0 * 1 ≤ 140737488351232) (w1 : (Lit.int .u8 a1).wf = true) (w2 : (Lit.int .u8 a2).wf = true) :
  Calls Tryz.prog 5 #[.slice a0 len0 cap0, .int .u8 a1, .int .u8 a2] w fun e w' => e = .returned (.bool true) ∧ Below w.heap.size w w' := by
 obtain ⟨l0, rfl, hr0, hm0, hw0, hc0⟩ := ReadsInt.ofRowC w0; obtain ⟨k, h⟩ := P l0 a1 a2 hm0 y0 hw0 w1 w2
 refine (lockagelaw16_KeyShared.calls k _ _ l0 a1 a2 true w (Kd.C_of_reads (d := (0 : Int)) (h1 := fun _ => rfl) hr0) hc0 h).mono ?_
 rintro e w' ⟨rfl, hd⟩
 exact ⟨rfl, hd⟩

end Go.Proofs.YthmallhjbhphgaaGreatDoor.P
