/- Printed by a program of the session out of the translation: plain Lean functions, each with the contract that the Go function computes it. -/
import Derived.Test.YthmallhjbhphgaaGreatDoorHZm
import Derived.Test.YthmallhjbhphgaaGreatDoorHZ
import Derived.Test.YthmallhjbhphgaaGreatDoorPx0
import Derived.Test.YthmallhjbhphgaaGreatDoorPx4
import Derived.Test.YthmallhjbhphgaaGreatDoorPx5
import Derived.Test.YthmallhjbhphgaaGreatDoorPx7
import Derived.Test.YthmallhjbhphgaaGreatDoorPx12
import Derived.Test.YthmallhjbhphgaaGreatDoorPx13
import Derived.Test.YthmallhjbhphgaaGreatDoorPx14
import Derived.Test.YthmallhjbhphgaaGreatDoorHZC
namespace Go.Proofs.YthmallhjbhphgaaGreatDoor.P
open Go.RowKit Go.Proofs.YthmallhjbhphgaaGreatDoorW.PrintWords Go.Proofs.YthmallhjbhphgaaGreatDoorW.PrintLast Go.Proofs.YthmallhjbhphgaaGreatDoorW.PrintMore
attribute [local go_sem] max2_int min2_int max_two min_two max_three min_three max_four min_four   -- for this text's walks alone
set_option linter.unusedVariables false
set_option linter.unusedSimpArgs false

def lockagelaw16_same.f (k : Nat) (a0_0 : ByteArray) (a0_1 : ByteArray) (a0_2 : Int) (a0_3 : ByteArray) (a0_4 : Int) (l0_5 : List (S37)) (a0_6 : ByteArray) (a1_0 : ByteArray) (a1_1 : ByteArray) (a1_2 : Int) (a1_3 : ByteArray) (a1_4 : Int) (l1_5 : List (S37)) (a1_6 : ByteArray) (a2_0 : ByteArray) (a2_1 : ByteArray) (a2_2 : Int) (a2_3 : ByteArray) (a2_4 : Int) (l2_5 : List (S37)) (l3 : List ByteArray) : Option (Bool) := (key_Key.f k a0_0 a0_1 a0_2 a0_3 a0_4 l0_5 a0_6).bind fun bt394 => ((lockageref16_Key.f k a0_0 a0_1 a0_2 a0_3 a0_4 l0_5 a0_6).bind fun bt396 => ((key_Vary.f k l2_5).bind fun bt398 => ((lockageref16_Vary.f k l2_5).bind fun bt402 => ((key_Shared.f k a0_0 a0_1 a0_2 a0_3 a0_4 l0_5 a0_6).bind fun t406 => ((lockageref16_Shared.f k a0_0 a0_1 a0_2 a0_3 a0_4 l0_5 a0_6).bind fun t407 => (if (t406 == t407) = true then (if bt394.1.toList = bt396.1.toList then (if bt394.2 = bt396.2 then ((lockageref05_Strings.f k bt398.1 bt402.1).bind fun t408 => (if t408 = true then (if (bt398.2 == bt402.2) = true then ((key_Split.f k l3 l0_5).bind fun t409 => ((lockageref16_Split.f k l3 l0_5).bind fun t410 => (if t409.toList = t410.toList then ((key_Fits.f k a0_0 a0_1 a0_2 a0_3 a0_4 l0_5 a0_6 a1_0 a1_1 a1_2 a1_3 a1_4 l1_5 a1_6 a2_0 a2_1 a2_2 a2_3 a2_4 l2_5).bind fun t411 => ((lockageref16_Fits.f k a0_0 a0_1 a0_2 a0_3 a0_4 l0_5 a0_6 a1_0 a1_1 a1_2 a1_3 a1_4 l1_5 a1_6 a2_0 a2_1 a2_2 a2_3 a2_4 l2_5).bind fun t412 => (some (t411 == t412)))) else (none)))) else (none)) else (none))) else (none)) else (none)) else (none)))))))
theorem lockagelaw16_same.mono : ∀ a0 a1 a2 a3 a4 a5 a6 a7 a8 a9 a10 a11 a12 a13 a14 a15 a16 a17 a18 a19 a20 k, LeO (lockagelaw16_same.f k a0 a1 a2 a3 a4 a5 a6 a7 a8 a9 a10 a11 a12 a13 a14 a15 a16 a17 a18 a19 a20) (lockagelaw16_same.f (k + 1) a0 a1 a2 a3 a4 a5 a6 a7 a8 a9 a10 a11 a12 a13 a14 a15 a16 a17 a18 a19 a20) := by
 intro a0 a1 a2 a3 a4 a5 a6 a7 a8 a9 a10 a11 a12 a13 a14 a15 a16 a17 a18 a19 a20 k
 unfold lockagelaw16_same.f; have m0 := @key_Fits.mono; have m1 := @key_Key.mono; have m2 := @key_Shared.mono; have m3 := @key_Split.mono; have m4 := @key_Vary.mono; have m5 := @lockageref05_Strings.mono; have m6 := @lockageref16_Fits.mono; have m7 := @lockageref16_Key.mono; have m8 := @lockageref16_Shared.mono; have m9 := @lockageref16_Split.mono; have m10 := @lockageref16_Vary.mono; exact zM
def lockagelaw16_same.T5 : Bool × List (List Nat × List Nat) := (true, [([], []), ([0], [0]), ([], []), ([2, 1], [2]), ([1, 3], [1, 3]), ([4, 3], [4]), ([5], [5]), ([5], [5]), ([6, 7, 5], [5, 6, 7]), ([5, 8], [5, 8]), ([9, 5], [9]), ([10], [10]), ([10], [10]), ([11, 12, 10], [10, 11, 12]), ([10, 13], [10, 13]), ([14, 10], [14]), ([15], [15]), ([15], [15]), ([16, 17, 15, 15], [15, 16, 17]), ([15, 18], [15, 18]), ([19, 18], [19]), ([20], [20]), ([20], [20]), ([21, 22, 20], [20, 21, 22]), ([20, 23], [20, 23]), ([24, 20], [24]), ([25], [25]), ([25], [25]), ([27, 25], [25, 27]), ([28, 25], [25, 28]), ([26, 29, 25, 25], [25, 26, 29]), ([25], [25]), ([25], [25]), ([32, 25], [25, 32]), ([33, 25], [25, 33]), ([31, 34, 30, 25], [25, 31, 34]), ([30, 35, 25], [25, 30, 35]), ([25, 36], [25, 36]), ([37, 35], [37]), ([38], [38]), ([38], [38]), ([38], [38]), ([39, 40, 41, 38, 38], [38, 39, 40, 41]), ([38], [38]), ([38], [38]), ([38], [38]), ([43, 44, 45, 42, 38], [38, 43, 44, 45]), ([42, 46, 38], [38, 42, 46]), ([38, 47], [38, 47]), ([48, 46, 0, 1, 2, 3, 4, 5, 6, 7, 8, 9, 10, 11, 12, 13, 14, 15, 16, 17, 18, 19, 20, 21, 22, 23, 24, 25, 26, 27, 28, 29, 30, 31, 32, 33, 34, 35, 36, 37, 38, 39, 40, 41, 42, 43, 44, 45, 46, 47, 48], [48])])
def lockagelaw16_same.B5 : List Nat := [0, 1, 0, 7, 15, 31, 63, 63, 255, 511, 1023, 2047, 2047, 8191, 16383, 32767, 65535, 65535, 262143, 524287, 1048575, 2097151, 2097151, 8388607, 16777215, 33554431, 67108863, 67108863, 201326591, 469762047, 1073741823, 67108863, 67108863, 4362076159, 12952010751, 34359738367, 68719476735, 137438953471, 274877906943, 549755813887, 549755813887, 549755813887, 4398046511103, 549755813887, 549755813887, 549755813887, 70368744177663, 140737488355327, 281474976710655, 562949953421311]
theorem lockagelaw16_same.tab5 : rtab .any (opsOf Tryz.f11 5) = lockagelaw16_same.T5 := by kernel_rfl
theorem lockagelaw16_same.bits5 : waitsOk lockagelaw16_same.T5.2 lockagelaw16_same.B5 = true := by kernel_rfl
set_option maxHeartbeats 8000000 in
set_option maxRecDepth 100000 in
theorem lockagelaw16_same.calls (k : Nat) (a0_0 : ByteArray) (a0_1 : ByteArray) (a0_2 : Int) (a0_3 : ByteArray) (a0_4 : Int) (A0_5 : Option Addr) (c0_5 : Nat) (l0_5 : List (S37)) (a0_6 : ByteArray) (a1_0 : ByteArray) (a1_1 : ByteArray) (a1_2 : Int) (a1_3 : ByteArray) (a1_4 : Int) (A1_5 : Option Addr) (c1_5 : Nat) (l1_5 : List (S37)) (a1_6 : ByteArray) (a2_0 : ByteArray) (a2_1 : ByteArray) (a2_2 : Int) (a2_3 : ByteArray) (a2_4 : Int) (A2_5 : Option Addr) (c2_5 : Nat) (l2_5 : List (S37)) (A3 : Option Addr) (c3 : Nat) (l3 : List ByteArray) (r : Bool) (w : World) (hr0_5 : Kd.C k37 w A0_5 l0_5.length l0_5) (hc0_5 : l0_5.length ≤ c0_5) (hr1_5 : Kd.C k37 w A1_5 l1_5.length l1_5) (hc1_5 : l1_5.length ≤ c1_5) (hr2_5 : Kd.C k37 w A2_5 l2_5.length l2_5) (hc2_5 : l2_5.length ≤ c2_5) (hr3 : Kd.C Kd.string w A3 l3.length l3) (hc3 : l3.length ≤ c3) (h : lockagelaw16_same.f k a0_0 a0_1 a0_2 a0_3 a0_4 l0_5 a0_6 a1_0 a1_1 a1_2 a1_3 a1_4 l1_5 a1_6 a2_0 a2_1 a2_2 a2_3 a2_4 l2_5 l3 = some r) :
  Calls Tryz.prog 11 #[.agg #[.string a0_0, .string a0_1, .int .i64 a0_2, .string a0_3, .int .i64 a0_4, .slice A0_5 l0_5.length c0_5, .string a0_6], .agg #[.string a1_0, .string a1_1, .int .i64 a1_2, .string a1_3, .int .i64 a1_4, .slice A1_5 l1_5.length c1_5, .string a1_6], .agg #[.string a2_0, .string a2_1, .int .i64 a2_2, .string a2_3, .int .i64 a2_4, .slice A2_5 l2_5.length c2_5], .slice A3 l3.length c3] w fun e w' => e = .returned (.bool r) ∧ Below w.heap.size w w' := by
 have hu26 := Tryz.underlying26; have hu24 := Tryz.underlying24; have HR0_5 := aM hr0_5; have HC0_5 := aM hc0_5; clear hr0_5 hc0_5; have HR1_5 := aM hr1_5; have HC1_5 := aM hc1_5; clear hr1_5 hc1_5; have HR2_5 := aM hr2_5; have HC2_5 := aM hc2_5; clear hr2_5 hc2_5; have HR3 := aM hr3; have HC3 := aM hc3; clear hr3 hc3; have HB := aM (Below.refl w.heap.size w); have H := h; unfold lockagelaw16_same.f at H; clear h; obtain ⟨⟨t394, t395⟩, A5, H⟩ := zc H; (try dsimp only at H); obtain ⟨⟨t396, t397⟩, A6, H⟩ := zc H; (try dsimp only at H); obtain ⟨⟨t398, t399⟩, A7, H⟩ := zc H; (try dsimp only at H); obtain ⟨⟨t402, t403⟩, A8, H⟩ := zc H; (try dsimp only at H); obtain ⟨t406, A9, H⟩ := zc H; (try dsimp only at H); obtain ⟨t407, A10, H⟩ := zc H; (try dsimp only at H); by_cases c11 : (t406 == t407) = true
 ·rw [if_pos c11] at H; have c11b0 : (t406 == t407) = true := c11
  (try (have c11b1 : decide (t406 = t407) = true := by simpa using c11))
  (try (have c11b2 : (t406 == t407) = true := by simpa using c11))
  clear c11; by_cases c12 : t394.toList = t396.toList
  ·rw [if_pos c12] at H; obtain ⟨c12b0, c12b1⟩ := zd c12; clear c12; by_cases c13 : t395 = t397
   ·rw [if_pos c13] at H; obtain ⟨c13b0, c13b1⟩ := zd c13; clear c13; obtain ⟨t408, A14, H⟩ := zc H; (try dsimp only at H); by_cases c15 : t408 = true
    ·subst c15; rw [if_pos rfl] at H; by_cases c16 : (t399 == t403) = true
     ·rw [if_pos c16] at H; have c16b0 : (t399 == t403) = true := c16
      (try (have c16b1 : decide (t399 = t403) = true := by simpa using c16))
      (try (have c16b2 : (t399 == t403) = true := by simpa using c16))
      clear c16; obtain ⟨t409, A17, H⟩ := zc H; (try dsimp only at H); obtain ⟨t410, A18, H⟩ := zc H; (try dsimp only at H); by_cases c19 : t409.toList = t410.toList
      ·rw [if_pos c19] at H; obtain ⟨c19b0, c19b1⟩ := zd c19; clear c19; replace H := Option.bind_eq_some_iff.mp H; obtain ⟨t411, A200, H⟩ := H; replace H : ((lockageref16_Fits.f k a0_0 a0_1 a0_2 a0_3 a0_4 l0_5 a0_6 a1_0 a1_1 a1_2 a1_3 a1_4 l1_5 a1_6 a2_0 a2_1 a2_2 a2_3 a2_4 l2_5).bind fun t412 => (some (t411 == t412))) = some r := H; have A20 := aM A200; clear A200; replace H := Option.bind_eq_some_iff.mp H; obtain ⟨t412, A210, H⟩ := H; replace H : (some (t411 == t412)) = some r := H; have A21 := aM A210; clear A210; obtain rfl := Option.some.inj H
       go_enter Tryz.func11, Tryz.ntmps11
       try go_wp2_with (first | ((with_reducible refine gate_dst (N := 4) rfl ?_); refine box_event ?hg (N := 4) ?hd (cs := #[.string a0_0, .string a0_1, .int .i64 a0_2, .string a0_3, .int .i64 a0_4, .slice A0_5 l0_5.length c0_5, .string a0_6]) (t := 26) ?hr ?_; (case hd => rfl); (case hg => rfl); (case hr => exact zG); intro gb391 hg w22 hbox hb; have BK391 := aM hbox; have GW391 := aM (by rw [hg]; exact (below_size zB) : w.heap.size ≤ gb391); replace HB := aM (below_step zB hb); have GE391 := GW391; clear hb hbox hg) | ((with_reducible refine gate_dst (N := 5) rfl ?_); refine box_event ?hg (N := 5) ?hd (cs := #[.string a1_0, .string a1_1, .int .i64 a1_2, .string a1_3, .int .i64 a1_4, .slice A1_5 l1_5.length c1_5, .string a1_6]) (t := 26) ?hr ?_; (case hd => rfl); (case hg => rfl); (case hr => exact zG); intro gb392 hg w23 hbox hb; have BK392 := aM hbox; have GW392 := aM (by rw [hg]; exact (below_size zB) : w.heap.size ≤ gb392); replace HB := aM (below_step zB hb); have GE392 := GW392; have NB391_392 := aM (by rw [hg]; exact Nat.ne_of_lt (blk_lt (zK BK391.out)) : gb391 ≠ gb392); replace BK391 := aM (zX BK391.out hb); have NB392_391 := aM NB391_392.out.symm; clear hb hbox hg) | ((with_reducible refine gate_dst (N := 6) rfl ?_); refine box_event ?hg (N := 6) ?hd (cs := #[.string a2_0, .string a2_1, .int .i64 a2_2, .string a2_3, .int .i64 a2_4, .slice A2_5 l2_5.length c2_5]) (t := 24) ?hr ?_; (case hd => rfl); (case hg => rfl); (case hr => exact zG); intro gb393 hg w24 hbox hb; have BK393 := aM hbox; have GW393 := aM (by rw [hg]; exact (below_size zB) : w.heap.size ≤ gb393); replace HB := aM (below_step zB hb); have GE393 := GW393; have NB391_393 := aM (by rw [hg]; exact Nat.ne_of_lt (blk_lt (zK BK391.out)) : gb391 ≠ gb393); replace BK391 := aM (zX BK391.out hb); have NB393_391 := aM NB391_393.out.symm; have NB392_393 := aM (by rw [hg]; exact Nat.ne_of_lt (blk_lt (zK BK392.out)) : gb392 ≠ gb393); replace BK392 := aM (zX BK392.out hb); have NB393_392 := aM NB392_393.out.symm; clear hb hbox hg; have hnb25 := NB391_392.out; have hnc25 := NB392_391.out; have hnb26 := NB391_393.out; have hnc26 := NB393_391.out; obtain ⟨_, _, _, _, _, _, _, _, _, _, _, _, _, _⟩ := cz7 BK391.out) | ((with_reducible refine gate_callee (f := 24) rfl ?_); refine goesL_ (some 19) rfl rfl Tryz.func24 (by kernel_rfl) rfl #[.agg #[.string a0_0, .string a0_1, .int .i64 a0_2, .string a0_3, .int .i64 a0_4, .slice A0_5 l0_5.length c0_5, .string a0_6]] rfl zL ?_; (with_reducible refine (key_Key.calls k a0_0 a0_1 a0_2 a0_3 a0_4 _ _ l0_5 a0_6 t394 t395 _ ?side1 ?side2 A5.out).mono ?_); (case side1 => exact zC (Kd.C_below HR0_5.out HB.out)); (case side2 => exact HC0_5.out); rintro e w28 ⟨rfl, hb⟩; refine ⟨_, rfl, ?_⟩; replace BK391 := aM (zX BK391.out hb); replace BK392 := aM (zX BK392.out hb); replace BK393 := aM (zX BK393.out hb); replace HB := aM (below_step zB hb); clear hb; obtain ⟨_, _, _, _, _, _, _, _, _, _, _, _, _, _⟩ := cz7 BK391.out) | ((with_reducible refine gate_callee (f := 25) rfl ?_); refine goesL_ (some 24) rfl rfl Tryz.func25 (by kernel_rfl) rfl #[.agg #[.string a0_0, .string a0_1, .int .i64 a0_2, .string a0_3, .int .i64 a0_4, .slice A0_5 l0_5.length c0_5, .string a0_6]] rfl zL ?_; (with_reducible refine (lockageref16_Key.calls k a0_0 a0_1 a0_2 a0_3 a0_4 _ _ l0_5 a0_6 t396 t397 _ ?side1 ?side2 A6.out).mono ?_); (case side1 => exact zC (Kd.C_below HR0_5.out HB.out)); (case side2 => exact HC0_5.out); rintro e w30 ⟨rfl, hb⟩; refine ⟨_, rfl, ?_⟩; replace BK391 := aM (zX BK391.out hb); replace BK392 := aM (zX BK392.out hb); replace BK393 := aM (zX BK393.out hb); replace HB := aM (below_step zB hb); clear hb; have hnb31 := NB393_392.out; have hnc31 := NB392_393.out; obtain ⟨_, _, _, _, _, _, _, _, _, _, _, _⟩ := cz6 BK393.out) | ((with_reducible refine gate_callee (f := 18) rfl ?_); refine goesL_ (some 30) rfl rfl Tryz.func18 (by kernel_rfl) rfl #[.slice A2_5 l2_5.length c2_5] rfl zL ?_; (with_reducible refine (key_Vary.calls k _ _ l2_5 t398 t399 _ ?side1 ?side2 A7.out).mono ?_); (case side1 => exact zC (Kd.C_below HR2_5.out HB.out)); (case side2 => exact HC2_5.out); rintro e w33 ⟨v400, rfl, ho0, hb⟩; refine ⟨_, rfl, ?_⟩; have HO401 := aM (Kd.R_lower ho0 (below_size zB)); replace BK391 := aM (zX BK391.out hb); replace BK392 := aM (zX BK392.out hb); replace BK393 := aM (zX BK393.out hb); replace HB := aM (below_step zB hb); clear hb ho0; obtain ⟨_, _, _, _, _, _, _, _, _, _, _, _⟩ := cz6 BK393.out) | ((with_reducible refine gate_callee (f := 26) rfl ?_); refine goesL_ (some 36) rfl rfl Tryz.func26 (by kernel_rfl) rfl #[.slice A2_5 l2_5.length c2_5] rfl zL ?_; (with_reducible refine (lockageref16_Vary.calls k _ _ l2_5 t402 t403 _ ?side1 ?side2 A8.out).mono ?_); (case side1 => exact zC (Kd.C_below HR2_5.out HB.out)); (case side2 => exact HC2_5.out); rintro e w35 ⟨v404, rfl, ho0, hb⟩; refine ⟨_, rfl, ?_⟩; have HO405 := aM (Kd.R_lower (Kd.R_new' ho0 (Kd.R_lt (zO HO401.out))) (below_size zB)); replace HO401 := aM (Kd.R_elder' (zO HO401.out) (Kd.R_base ho0) hb); replace BK391 := aM (zX BK391.out hb); replace BK392 := aM (zX BK392.out hb); replace BK393 := aM (zX BK393.out hb); replace HB := aM (below_step zB hb); clear hb ho0))
       replace HO401 := aM (rD HO401.out); replace HO405 := aM (rD HO405.out); replace BK391 := aM (bD BK391.out); replace BK392 := aM (bD BK392.out); replace BK393 := aM (bD BK393.out); replace HB := aM (lD HB.out)
       refine start_ (n := 50) (S := fun w' => w'.cell? ⟨gb391, 0, none⟩ = some (.string a0_0) ∧ w'.cell? ⟨gb391, 1, none⟩ = some (.string a0_1) ∧ w'.cell? ⟨gb391, 2, none⟩ = some (.int .i64 a0_2) ∧ w'.cell? ⟨gb391, 3, none⟩ = some (.string a0_3) ∧ w'.cell? ⟨gb391, 4, none⟩ = some (.int .i64 a0_4) ∧ w'.cell? ⟨gb391, 5, none⟩ = some (.slice A0_5 l0_5.length c0_5) ∧ w'.cell? ⟨gb391, 6, none⟩ = some (.string a0_6) ∧ w'.cell? ⟨gb392, 0, none⟩ = some (.string a1_0) ∧ w'.cell? ⟨gb392, 1, none⟩ = some (.string a1_1) ∧ w'.cell? ⟨gb392, 2, none⟩ = some (.int .i64 a1_2) ∧ w'.cell? ⟨gb392, 3, none⟩ = some (.string a1_3) ∧ w'.cell? ⟨gb392, 4, none⟩ = some (.int .i64 a1_4) ∧ w'.cell? ⟨gb392, 5, none⟩ = some (.slice A1_5 l1_5.length c1_5) ∧ w'.cell? ⟨gb392, 6, none⟩ = some (.string a1_6) ∧ w'.cell? ⟨gb393, 0, none⟩ = some (.string a2_0) ∧ w'.cell? ⟨gb393, 1, none⟩ = some (.string a2_1) ∧ w'.cell? ⟨gb393, 2, none⟩ = some (.int .i64 a2_2) ∧ w'.cell? ⟨gb393, 3, none⟩ = some (.string a2_3) ∧ w'.cell? ⟨gb393, 4, none⟩ = some (.int .i64 a2_4) ∧ w'.cell? ⟨gb393, 5, none⟩ = some (.slice A2_5 l2_5.length c2_5)) (ds := []) (dB 50 0) (by kernel_rfl) rfl rfl ⟨(blk_cell BK391.out 0).trans rfl, (blk_cell BK391.out 1).trans rfl, (blk_cell BK391.out 2).trans rfl, (blk_cell BK391.out 3).trans rfl, (blk_cell BK391.out 4).trans rfl, (blk_cell BK391.out 5).trans rfl, (blk_cell BK391.out 6).trans rfl, (blk_cell BK392.out 0).trans rfl, (blk_cell BK392.out 1).trans rfl, (blk_cell BK392.out 2).trans rfl, (blk_cell BK392.out 3).trans rfl, (blk_cell BK392.out 4).trans rfl, (blk_cell BK392.out 5).trans rfl, (blk_cell BK392.out 6).trans rfl, (blk_cell BK393.out 0).trans rfl, (blk_cell BK393.out 1).trans rfl, (blk_cell BK393.out 2).trans rfl, (blk_cell BK393.out 3).trans rfl, (blk_cell BK393.out 4).trans rfl, (blk_cell BK393.out 5).trans rfl⟩ (fun hHeld => ?_); refine with_tabW lockagelaw16_same.tab5 lockagelaw16_same.bits5 (fun HT_ HW_ => ?_)
       generalize w35.drew = w36 at HO401 HO405 BK391 BK392 BK393 HB hHeld ⊢
       refine tR 0 39 (dB 50 1) HT_.out HW_.out hHeld ?_
       refine tR 2 41 (dB 50 5) HT_.out HW_.out hHeld ?_
       refine oR 1 40 (dB 50 7) HT_.out (fun K hK => ?_)
       refine goes_ Tryz.func15 (by kernel_rfl) rfl #[.agg #[.string a0_0, .string a0_1, .int .i64 a0_2, .string a0_3, .int .i64 a0_4, .slice A0_5 l0_5.length c0_5, .string a0_6]] (by rfl) rfl rfl zL ?_
       with_reducible refine (key_Shared.calls k a0_0 a0_1 a0_2 a0_3 a0_4 _ _ l0_5 a0_6 t406 _ ?side1 ?side2 A9.out).mono ?_
       (case side1 => exact zC (Kd.C_below HR0_5.out HB.out))
       (case side2 => exact HC0_5.out)
       rintro e w37 ⟨rfl, hb⟩
       refine ⟨_, rfl, ?_⟩
       replace HO401 := aM (Kd.R_below (zO HO401.out) hb); replace HO405 := aM (Kd.R_below (zO HO405.out) hb); replace BK391 := aM (zX BK391.out hb); replace BK392 := aM (zX BK392.out hb); replace BK393 := aM (zX BK393.out hb); replace HB := aM (below_step zB hb)
       (try clear hb)
       (try clear hb2)
       (try clear hk)
       (try clear hi)
       refine hK.out _ _ ⟨(blk_cell BK391.out 0).trans rfl, (blk_cell BK391.out 1).trans rfl, (blk_cell BK391.out 2).trans rfl, (blk_cell BK391.out 3).trans rfl, (blk_cell BK391.out 4).trans rfl, (blk_cell BK391.out 5).trans rfl, (blk_cell BK391.out 6).trans rfl, (blk_cell BK392.out 0).trans rfl, (blk_cell BK392.out 1).trans rfl, (blk_cell BK392.out 2).trans rfl, (blk_cell BK392.out 3).trans rfl, (blk_cell BK392.out 4).trans rfl, (blk_cell BK392.out 5).trans rfl, (blk_cell BK392.out 6).trans rfl, (blk_cell BK393.out 0).trans rfl, (blk_cell BK393.out 1).trans rfl, (blk_cell BK393.out 2).trans rfl, (blk_cell BK393.out 3).trans rfl, (blk_cell BK393.out 4).trans rfl, (blk_cell BK393.out 5).trans rfl⟩ (fun hHeld => ?_)
       clear hK K
       refine norm_ (a' := ?_) ?_ ?_
       rotate_left
       ·show Act.put _ (some 40) _ = _
        exact zP
       refine oR 3 42 (dB 50 15) HT_.out (fun K hK => ?_)
       refine goes_ Tryz.func16 (by kernel_rfl) rfl #[.agg #[.string a0_0, .string a0_1, .int .i64 a0_2, .string a0_3, .int .i64 a0_4, .slice A0_5 l0_5.length c0_5, .string a0_6]] (by rfl) rfl rfl zL ?_
       with_reducible refine (lockageref16_Shared.calls k a0_0 a0_1 a0_2 a0_3 a0_4 _ _ l0_5 a0_6 t407 _ ?side1 ?side2 A10.out).mono ?_
       (case side1 => exact zC (Kd.C_below HR0_5.out HB.out))
       (case side2 => exact HC0_5.out)
       rintro e w38 ⟨rfl, hb⟩
       refine ⟨_, rfl, ?_⟩
       replace HO401 := aM (Kd.R_below (zO HO401.out) hb); replace HO405 := aM (Kd.R_below (zO HO405.out) hb); replace BK391 := aM (zX BK391.out hb); replace BK392 := aM (zX BK392.out hb); replace BK393 := aM (zX BK393.out hb); replace HB := aM (below_step zB hb)
       (try clear hb)
       (try clear hb2)
       (try clear hk)
       (try clear hi)
       obtain ⟨Ao39, co39, eo39⟩ := Kd.R_slice HO401.out
       (first | subst eo39 | (injection eo39 with f1_ f2_ f3_; have f4_ := f1_.symm; have f5_ := f3_.symm; clear f1_ f2_ f3_; subst f4_; subst f5_))
       obtain ⟨Ao40, co40, eo40⟩ := Kd.R_slice HO405.out
       (first | subst eo40 | (injection eo40 with f1_ f2_ f3_; have f4_ := f1_.symm; have f5_ := f3_.symm; clear f1_ f2_ f3_; subst f4_; subst f5_))
       refine hK.out _ _ ⟨(blk_cell BK391.out 0).trans rfl, (blk_cell BK391.out 1).trans rfl, (blk_cell BK391.out 2).trans rfl, (blk_cell BK391.out 3).trans rfl, (blk_cell BK391.out 4).trans rfl, (blk_cell BK391.out 5).trans rfl, (blk_cell BK391.out 6).trans rfl, (blk_cell BK392.out 0).trans rfl, (blk_cell BK392.out 1).trans rfl, (blk_cell BK392.out 2).trans rfl, (blk_cell BK392.out 3).trans rfl, (blk_cell BK392.out 4).trans rfl, (blk_cell BK392.out 5).trans rfl, (blk_cell BK392.out 6).trans rfl, (blk_cell BK393.out 0).trans rfl, (blk_cell BK393.out 1).trans rfl, (blk_cell BK393.out 2).trans rfl, (blk_cell BK393.out 3).trans rfl, (blk_cell BK393.out 4).trans rfl, (blk_cell BK393.out 5).trans rfl⟩ (fun hHeld => ?_)
       clear hK K
       refine norm_ (a' := ?_) ?_ ?_
       rotate_left
       ·show Act.put _ (some 42) _ = _
        exact zP
       refine pR 4 43 (dB 50 31) HT_.out ?_
       refine pR 5 44 (dB 50 63) HT_.out ?_
       refine pR 6 45 (dB 50 127) HT_.out ?_
       refine pR 7 46 (dB 50 255) HT_.out ?_
       refine pR 8 47 (dB 50 511) HT_.out ?_
       refine pR 9 48 (dB 50 1023) HT_.out ?_
       refine pR 10 49 (dB 50 2047) HT_.out ?_
       refine pR 11 50 (dB 50 4095) HT_.out ?_
       refine pR 12 51 (dB 50 8191) HT_.out ?_
       refine pR 13 52 (dB 50 16383) HT_.out ?_
       refine pR 14 53 (dB 50 32767) HT_.out ?_
       refine pR 15 54 (dB 50 65535) HT_.out ?_
       refine pR 16 55 (dB 50 131071) HT_.out ?_
       refine pR 17 56 (dB 50 262143) HT_.out ?_
       refine oR 18 57 (dB 50 524287) HT_.out (fun K hK => ?_)
       refine goes_ Tryz.func20 (by kernel_rfl) rfl #[.slice Ao39 t398.length co39, .slice Ao40 t402.length co40] (by rfl) rfl rfl zL ?_
       with_reducible refine (lockageref05_Strings.calls k _ _ t398 _ _ t402 true _ ?side1 ?side2 ?side3 ?side4 A14.out).mono ?_
       (case side1 => exact zC ((Kd.R_reads' HO401.out).2.2))
       (case side2 => exact (Kd.R_reads' HO401.out).2.1)
       (case side3 => exact zC ((Kd.R_reads' HO405.out).2.2))
       (case side4 => exact (Kd.R_reads' HO405.out).2.1)
       rintro e w' ⟨rfl, ⟨nd, rfl⟩⟩
       refine ⟨_, rfl, ?_⟩
       refine hK.out _ _ ⟨(blk_cell BK391.out 0).trans rfl, (blk_cell BK391.out 1).trans rfl, (blk_cell BK391.out 2).trans rfl, (blk_cell BK391.out 3).trans rfl, (blk_cell BK391.out 4).trans rfl, (blk_cell BK391.out 5).trans rfl, (blk_cell BK391.out 6).trans rfl, (blk_cell BK392.out 0).trans rfl, (blk_cell BK392.out 1).trans rfl, (blk_cell BK392.out 2).trans rfl, (blk_cell BK392.out 3).trans rfl, (blk_cell BK392.out 4).trans rfl, (blk_cell BK392.out 5).trans rfl, (blk_cell BK392.out 6).trans rfl, (blk_cell BK393.out 0).trans rfl, (blk_cell BK393.out 1).trans rfl, (blk_cell BK393.out 2).trans rfl, (blk_cell BK393.out 3).trans rfl, (blk_cell BK393.out 4).trans rfl, (blk_cell BK393.out 5).trans rfl⟩ (fun hHeld => ?_)
       clear hK K
       refine norm_ (a' := ?_) ?_ ?_
       rotate_left
       ·show Act.put _ (some 57) _ = _
        exact zP
       refine pR 19 58 (dB 50 1048575) HT_.out ?_
       refine pR 20 59 (dB 50 2097151) HT_.out ?_
       refine pR 21 60 (dB 50 4194303) HT_.out ?_
       refine pR 22 61 (dB 50 8388607) HT_.out ?_
       refine pR 23 62 (dB 50 16777215) HT_.out ?_
       refine pR 24 63 (dB 50 33554431) HT_.out ?_
       refine pR 25 64 (dB 50 67108863) HT_.out ?_
       refine pR 26 65 (dB 50 134217727) HT_.out ?_
       refine pR 27 66 (dB 50 268435455) HT_.out ?_
       refine pR 28 67 (dB 50 536870911) HT_.out ?_
       refine pR 31 70 (dB 50 2684354559) HT_.out ?_
       refine pR 32 71 (dB 50 6979321855) HT_.out ?_
       refine pR 33 72 (dB 50 15569256447) HT_.out ?_
       refine tR 29 68 (dB 50 16106127359) HT_.out HW_.out hHeld ?_
       refine tR 34 73 (dB 50 33285996543) HT_.out HW_.out hHeld ?_
       refine oR 30 69 (dB 50 34359738367) HT_.out (fun K hK => ?_)
       refine goes_ Tryz.func22 (by kernel_rfl) rfl #[.slice A3 l3.length c3, .slice A0_5 l0_5.length c0_5] (by rfl) rfl rfl zL ?_
       with_reducible refine (key_Split.calls k _ _ l3 _ _ l0_5 t409 _ ?side1 ?side2 ?side3 ?side4 A17.out).mono ?_
       (case side1 => exact zC (Kd.C_below HR3.out zB))
       (case side2 => exact HC3.out)
       (case side3 => exact zC (Kd.C_below HR0_5.out zB))
       (case side4 => exact HC0_5.out)
       rintro e w41 ⟨rfl, hb⟩
       refine ⟨_, rfl, ?_⟩
       replace HO401 := aM (Kd.R_below (zO HO401.out) hb); replace HO405 := aM (Kd.R_below (zO HO405.out) hb); replace BK391 := aM (zX BK391.out hb); replace BK392 := aM (zX BK392.out hb); replace BK393 := aM (zX BK393.out hb); replace HB := aM (below_step zB hb)
       (try clear hb)
       (try clear hb2)
       (try clear hk)
       (try clear hi)
       refine hK.out _ _ ⟨(blk_cell BK391.out 0).trans rfl, (blk_cell BK391.out 1).trans rfl, (blk_cell BK391.out 2).trans rfl, (blk_cell BK391.out 3).trans rfl, (blk_cell BK391.out 4).trans rfl, (blk_cell BK391.out 5).trans rfl, (blk_cell BK391.out 6).trans rfl, (blk_cell BK392.out 0).trans rfl, (blk_cell BK392.out 1).trans rfl, (blk_cell BK392.out 2).trans rfl, (blk_cell BK392.out 3).trans rfl, (blk_cell BK392.out 4).trans rfl, (blk_cell BK392.out 5).trans rfl, (blk_cell BK392.out 6).trans rfl, (blk_cell BK393.out 0).trans rfl, (blk_cell BK393.out 1).trans rfl, (blk_cell BK393.out 2).trans rfl, (blk_cell BK393.out 3).trans rfl, (blk_cell BK393.out 4).trans rfl, (blk_cell BK393.out 5).trans rfl⟩ (fun hHeld => ?_)
       clear hK K
       refine norm_ (a' := ?_) ?_ ?_
       rotate_left
       ·show Act.put _ (some 69) _ = _
        exact zP
       refine oR 35 74 (dB 50 68719476735) HT_.out (fun K hK => ?_)
       refine goes_ Tryz.func27 (by kernel_rfl) rfl #[.slice A3 l3.length c3, .slice A0_5 l0_5.length c0_5] (by rfl) rfl rfl zL ?_
       with_reducible refine (lockageref16_Split.calls k _ _ l3 _ _ l0_5 t410 _ ?side1 ?side2 ?side3 ?side4 A18.out).mono ?_
       (case side1 => exact zC (Kd.C_below HR3.out HB.out))
       (case side2 => exact HC3.out)
       (case side3 => exact zC (Kd.C_below HR0_5.out HB.out))
       (case side4 => exact HC0_5.out)
       rintro e w42 ⟨rfl, hb⟩
       refine ⟨_, rfl, ?_⟩
       replace HO401 := aM (Kd.R_below (zO HO401.out) hb); replace HO405 := aM (Kd.R_below (zO HO405.out) hb); replace BK391 := aM (zX BK391.out hb); replace BK392 := aM (zX BK392.out hb); replace BK393 := aM (zX BK393.out hb); replace HB := aM (below_step zB hb)
       (try clear hb)
       (try clear hb2)
       (try clear hk)
       (try clear hi)
       refine hK.out _ _ ⟨(blk_cell BK391.out 0).trans rfl, (blk_cell BK391.out 1).trans rfl, (blk_cell BK391.out 2).trans rfl, (blk_cell BK391.out 3).trans rfl, (blk_cell BK391.out 4).trans rfl, (blk_cell BK391.out 5).trans rfl, (blk_cell BK391.out 6).trans rfl, (blk_cell BK392.out 0).trans rfl, (blk_cell BK392.out 1).trans rfl, (blk_cell BK392.out 2).trans rfl, (blk_cell BK392.out 3).trans rfl, (blk_cell BK392.out 4).trans rfl, (blk_cell BK392.out 5).trans rfl, (blk_cell BK392.out 6).trans rfl, (blk_cell BK393.out 0).trans rfl, (blk_cell BK393.out 1).trans rfl, (blk_cell BK393.out 2).trans rfl, (blk_cell BK393.out 3).trans rfl, (blk_cell BK393.out 4).trans rfl, (blk_cell BK393.out 5).trans rfl⟩ (fun hHeld => ?_)
       clear hK K
       refine norm_ (a' := ?_) ?_ ?_
       rotate_left
       ·show Act.put _ (some 74) _ = _
        exact zP
       refine pR 36 75 (dB 50 137438953471) HT_.out ?_
       refine pR 37 76 (dB 50 274877906943) HT_.out ?_
       refine pR 38 77 (dB 50 549755813887) HT_.out ?_
       refine tR 39 78 (dB 50 1099511627775) HT_.out HW_.out hHeld ?_
       refine tR 40 79 (dB 50 2199023255551) HT_.out HW_.out hHeld ?_
       refine tR 41 80 (dB 50 4398046511103) HT_.out HW_.out hHeld ?_
       refine tR 43 82 (dB 50 13194139533311) HT_.out HW_.out hHeld ?_
       refine tR 44 83 (dB 50 30786325577727) HT_.out HW_.out hHeld ?_
       refine tR 45 84 (dB 50 65970697666559) HT_.out HW_.out hHeld ?_
       refine oR 42 81 (dB 50 70368744177663) HT_.out (fun K hK => ?_)
       refine goes_ Tryz.func17 (by kernel_rfl) rfl #[.agg #[.string a0_0, .string a0_1, .int .i64 a0_2, .string a0_3, .int .i64 a0_4, .slice A0_5 l0_5.length c0_5, .string a0_6], .agg #[.string a1_0, .string a1_1, .int .i64 a1_2, .string a1_3, .int .i64 a1_4, .slice A1_5 l1_5.length c1_5, .string a1_6], .agg #[.string a2_0, .string a2_1, .int .i64 a2_2, .string a2_3, .int .i64 a2_4, .slice A2_5 l2_5.length c2_5]] (by rfl) rfl rfl zL ?_
       with_reducible refine (key_Fits.calls k a0_0 a0_1 a0_2 a0_3 a0_4 _ _ l0_5 a0_6 a1_0 a1_1 a1_2 a1_3 a1_4 _ _ l1_5 a1_6 a2_0 a2_1 a2_2 a2_3 a2_4 _ _ l2_5 t411 _ ?side1 ?side2 ?side3 ?side4 ?side5 ?side6 A20.out).mono ?_
       (case side1 => exact zC (Kd.C_below HR0_5.out HB.out))
       (case side2 => exact HC0_5.out)
       (case side3 => exact zC (Kd.C_below HR1_5.out HB.out))
       (case side4 => exact HC1_5.out)
       (case side5 => exact zC (Kd.C_below HR2_5.out HB.out))
       (case side6 => exact HC2_5.out)
       rintro e w43 ⟨rfl, hb⟩
       refine ⟨_, rfl, ?_⟩
       replace HO401 := aM (Kd.R_below (zO HO401.out) hb); replace HO405 := aM (Kd.R_below (zO HO405.out) hb); replace BK391 := aM (zX BK391.out hb); replace BK392 := aM (zX BK392.out hb); replace BK393 := aM (zX BK393.out hb); replace HB := aM (below_step zB hb)
       (try clear hb)
       (try clear hb2)
       (try clear hk)
       (try clear hi)
       refine hK.out _ _ ⟨(blk_cell BK391.out 0).trans rfl, (blk_cell BK391.out 1).trans rfl, (blk_cell BK391.out 2).trans rfl, (blk_cell BK391.out 3).trans rfl, (blk_cell BK391.out 4).trans rfl, (blk_cell BK391.out 5).trans rfl, (blk_cell BK391.out 6).trans rfl, (blk_cell BK392.out 0).trans rfl, (blk_cell BK392.out 1).trans rfl, (blk_cell BK392.out 2).trans rfl, (blk_cell BK392.out 3).trans rfl, (blk_cell BK392.out 4).trans rfl, (blk_cell BK392.out 5).trans rfl, (blk_cell BK392.out 6).trans rfl, (blk_cell BK393.out 0).trans rfl, (blk_cell BK393.out 1).trans rfl, (blk_cell BK393.out 2).trans rfl, (blk_cell BK393.out 3).trans rfl, (blk_cell BK393.out 4).trans rfl, (blk_cell BK393.out 5).trans rfl⟩ (fun hHeld => ?_)
       clear hK K
       refine norm_ (a' := ?_) ?_ ?_
       rotate_left
       ·show Act.put _ (some 81) _ = _
        exact zP
       refine oR 46 85 (dB 50 140737488355327) HT_.out (fun K hK => ?_)
       refine goes_ Tryz.func28 (by kernel_rfl) rfl #[.agg #[.string a0_0, .string a0_1, .int .i64 a0_2, .string a0_3, .int .i64 a0_4, .slice A0_5 l0_5.length c0_5, .string a0_6], .agg #[.string a1_0, .string a1_1, .int .i64 a1_2, .string a1_3, .int .i64 a1_4, .slice A1_5 l1_5.length c1_5, .string a1_6], .agg #[.string a2_0, .string a2_1, .int .i64 a2_2, .string a2_3, .int .i64 a2_4, .slice A2_5 l2_5.length c2_5]] (by rfl) rfl rfl zL ?_
       with_reducible refine (lockageref16_Fits.calls k a0_0 a0_1 a0_2 a0_3 a0_4 _ _ l0_5 a0_6 a1_0 a1_1 a1_2 a1_3 a1_4 _ _ l1_5 a1_6 a2_0 a2_1 a2_2 a2_3 a2_4 _ _ l2_5 t412 _ ?side1 ?side2 ?side3 ?side4 ?side5 ?side6 A21.out).mono ?_
       (case side1 => exact zC (Kd.C_below HR0_5.out HB.out))
       (case side2 => exact HC0_5.out)
       (case side3 => exact zC (Kd.C_below HR1_5.out HB.out))
       (case side4 => exact HC1_5.out)
       (case side5 => exact zC (Kd.C_below HR2_5.out HB.out))
       (case side6 => exact HC2_5.out)
       rintro e w44 ⟨rfl, hb⟩
       refine ⟨_, rfl, ?_⟩
       replace HO401 := aM (Kd.R_below (zO HO401.out) hb); replace HO405 := aM (Kd.R_below (zO HO405.out) hb); replace BK391 := aM (zX BK391.out hb); replace BK392 := aM (zX BK392.out hb); replace BK393 := aM (zX BK393.out hb); replace HB := aM (below_step zB hb)
       (try clear hb)
       (try clear hb2)
       (try clear hk)
       (try clear hi)
       refine hK.out _ _ ⟨(blk_cell BK391.out 0).trans rfl, (blk_cell BK391.out 1).trans rfl, (blk_cell BK391.out 2).trans rfl, (blk_cell BK391.out 3).trans rfl, (blk_cell BK391.out 4).trans rfl, (blk_cell BK391.out 5).trans rfl, (blk_cell BK391.out 6).trans rfl, (blk_cell BK392.out 0).trans rfl, (blk_cell BK392.out 1).trans rfl, (blk_cell BK392.out 2).trans rfl, (blk_cell BK392.out 3).trans rfl, (blk_cell BK392.out 4).trans rfl, (blk_cell BK392.out 5).trans rfl, (blk_cell BK392.out 6).trans rfl, (blk_cell BK393.out 0).trans rfl, (blk_cell BK393.out 1).trans rfl, (blk_cell BK393.out 2).trans rfl, (blk_cell BK393.out 3).trans rfl, (blk_cell BK393.out 4).trans rfl, (blk_cell BK393.out 5).trans rfl⟩ (fun hHeld => ?_)
       clear hK K
       refine norm_ (a' := ?_) ?_ ?_
       rotate_left
       ·show Act.put _ (some 85) _ = _
        exact zP
       refine pR 47 86 (dB 50 281474976710655) HT_.out ?_
       refine pR 48 87 (dB 50 562949953421311) HT_.out ?_
       refine pR 49 8 (dB 50 1125899906842623) HT_.out ?_
       refine done_ (done_of HT_.out (by kernel_rfl)) ?_
       try go_wp2
       go_ret
       exact ⟨zE, zB⟩
      ·rw [if_neg c19] at H; obtain ⟨c19b0, c19b1⟩ := ze c19; exact absurd H (by simp)
     ·rw [if_neg c16] at H; (have c16b0 : (t399 == t403) = false := by simpa using c16)
      (try (have c16b1 : decide (t399 = t403) = false := by simpa using c16))
      (try (have c16b2 : (t399 == t403) = false := by simpa using c16))
      (try (have c16b3 : ¬ (t399 = t403) := by simpa using c16))
      clear c16; exact absurd H (by simp)
    ·exact zf c15 H
   ·rw [if_neg c13] at H; obtain ⟨c13b0, c13b1⟩ := ze c13; exact absurd H (by simp)
  ·rw [if_neg c12] at H; obtain ⟨c12b0, c12b1⟩ := ze c12; exact absurd H (by simp)
 ·rw [if_neg c11] at H; (have c11b0 : (t406 == t407) = false := by simpa using c11)
  (try (have c11b1 : decide (t406 = t407) = false := by simpa using c11))
  (try (have c11b2 : (t406 == t407) = false := by simpa using c11))
  (try (have c11b3 : ¬ (t406 = t407) := by simpa using c11))
  clear c11; exact absurd H (by simp)

end Go.Proofs.YthmallhjbhphgaaGreatDoor.P
