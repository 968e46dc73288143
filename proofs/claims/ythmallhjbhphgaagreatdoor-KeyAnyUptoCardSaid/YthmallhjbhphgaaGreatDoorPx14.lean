/- Printed by a program of the session out of the translation: plain Lean functions, each with the contract that the Go function computes it. -/
import Derived.Test.YthmallhjbhphgaaGreatDoorHZm
import Derived.Test.YthmallhjbhphgaaGreatDoorHZ
import Derived.Test.YthmallhjbhphgaaGreatDoorPx0
import Derived.Test.YthmallhjbhphgaaGreatDoorPx5
import Derived.Test.YthmallhjbhphgaaGreatDoorPx6
import Derived.Test.YthmallhjbhphgaaGreatDoorPx13
namespace Go.Proofs.YthmallhjbhphgaaGreatDoor.P
open Go.RowKit Go.Proofs.YthmallhjbhphgaaGreatDoorW.PrintWords Go.Proofs.YthmallhjbhphgaaGreatDoorW.PrintLast Go.Proofs.YthmallhjbhphgaaGreatDoorW.PrintMore
attribute [local go_sem] max2_int min2_int max_two min_two max_three min_three max_four min_four   -- for this text's walks alone
set_option linter.unusedVariables false
set_option linter.unusedSimpArgs false

def lockageref16_Fits.f (k : Nat) (a0_0 : ByteArray) (a0_1 : ByteArray) (a0_2 : Int) (a0_3 : ByteArray) (a0_4 : Int) (l0_5 : List (S37)) (a0_6 : ByteArray) (a1_0 : ByteArray) (a1_1 : ByteArray) (a1_2 : Int) (a1_3 : ByteArray) (a1_4 : Int) (l1_5 : List (S37)) (a1_6 : ByteArray) (a2_0 : ByteArray) (a2_1 : ByteArray) (a2_2 : Int) (a2_3 : ByteArray) (a2_4 : Int) (l2_5 : List (S37)) : Option (Bool) := (lockageref16_Vary.f k l2_5).bind fun bt380 => (if bt380.2 = true then ((lockageref16_directs.f k l2_5 (⟨#[112, 114, 105, 118, 97, 116, 101]⟩ : ByteArray)).bind fun t384 => (if t384 = true then (some false) else ((lockageref16_directs.f k l2_5 (⟨#[110, 111, 45, 115, 116, 111, 114, 101]⟩ : ByteArray)).bind fun t385 => (if t385 = true then (some false) else ((lockageref05_Get.f k l2_5 (⟨#[115, 101, 116, 45, 99, 111, 111, 107, 105, 101]⟩ : ByteArray)).bind fun t386 => (if (t386.length : Int) = 0 then ((lockageref16_Split.f k bt380.1 l0_5).bind fun t389 => ((lockageref16_Split.f k bt380.1 l1_5).bind fun t390 => (some (t389.toList == t390.toList)))) else (some false))))))) else (some false))
theorem lockageref16_Fits.mono : ∀ a0 a1 a2 a3 a4 a5 a6 a7 a8 a9 a10 a11 a12 a13 a14 a15 a16 a17 a18 a19 k, LeO (lockageref16_Fits.f k a0 a1 a2 a3 a4 a5 a6 a7 a8 a9 a10 a11 a12 a13 a14 a15 a16 a17 a18 a19) (lockageref16_Fits.f (k + 1) a0 a1 a2 a3 a4 a5 a6 a7 a8 a9 a10 a11 a12 a13 a14 a15 a16 a17 a18 a19) := by
 intro a0 a1 a2 a3 a4 a5 a6 a7 a8 a9 a10 a11 a12 a13 a14 a15 a16 a17 a18 a19 k
 unfold lockageref16_Fits.f; have m0 := @lockageref05_Get.mono; have m1 := @lockageref16_Split.mono; have m2 := @lockageref16_Vary.mono; have m3 := @lockageref16_directs.mono; exact zM
def lockageref16_Fits.T2 : Bool × List (List Nat × List Nat) := (true, [([], []), ([0], [0]), ([1], [1]), ([2, 1], [1, 2]), ([3, 1, 1], [1, 3]), ([4, 1], [1, 4]), ([1, 5], [1, 5]), ([6, 4], [6]), ([7], [7]), ([8, 7], [7, 8]), ([9, 7, 7], [7, 9]), ([10, 7], [7, 10]), ([7, 11], [7, 11]), ([12, 10], [12]), ([13], [13]), ([14, 13], [13, 14]), ([15, 13, 13], [13, 15]), ([16, 13], [13, 16]), ([17, 13], [13, 17]), ([13, 18], [13, 18]), ([19, 16], [19]), ([20], [20]), ([20], [20]), ([22, 20], [20, 22]), ([23, 20], [20, 23]), ([21, 24, 20, 20], [20, 21, 24]), ([20], [20]), ([20], [20]), ([27, 20], [20, 27]), ([28, 20], [20, 28]), ([26, 29, 25, 20], [20, 26, 29]), ([25, 30, 20], [20, 25, 30]), ([20, 31], [20, 31]), ([32, 30, 0, 1, 2, 3, 4, 5, 6, 7, 8, 9, 10, 11, 12, 13, 14, 15, 16, 17, 18, 19, 20, 21, 22, 23, 24, 25, 26, 27, 28, 29, 30, 31, 32], [32])])
def lockageref16_Fits.B2 : List Nat := [0, 1, 3, 7, 15, 31, 63, 127, 255, 511, 1023, 2047, 4095, 8191, 16383, 32767, 65535, 131071, 262143, 524287, 1048575, 2097151, 2097151, 6291455, 14680063, 33554431, 2097151, 2097151, 136314879, 404750335, 1073741823, 2147483647, 4294967295, 8589934591]
theorem lockageref16_Fits.tab2 : rtab .any (opsOf Tryz.f28 2) = lockageref16_Fits.T2 := by kernel_rfl
theorem lockageref16_Fits.bits2 : waitsOk lockageref16_Fits.T2.2 lockageref16_Fits.B2 = true := by kernel_rfl
set_option maxHeartbeats 8000000 in
set_option maxRecDepth 100000 in
theorem lockageref16_Fits.calls (k : Nat) (a0_0 : ByteArray) (a0_1 : ByteArray) (a0_2 : Int) (a0_3 : ByteArray) (a0_4 : Int) (A0_5 : Option Addr) (c0_5 : Nat) (l0_5 : List (S37)) (a0_6 : ByteArray) (a1_0 : ByteArray) (a1_1 : ByteArray) (a1_2 : Int) (a1_3 : ByteArray) (a1_4 : Int) (A1_5 : Option Addr) (c1_5 : Nat) (l1_5 : List (S37)) (a1_6 : ByteArray) (a2_0 : ByteArray) (a2_1 : ByteArray) (a2_2 : Int) (a2_3 : ByteArray) (a2_4 : Int) (A2_5 : Option Addr) (c2_5 : Nat) (l2_5 : List (S37)) (r : Bool) (w : World) (hr0_5 : Kd.C k37 w A0_5 l0_5.length l0_5) (hc0_5 : l0_5.length ≤ c0_5) (hr1_5 : Kd.C k37 w A1_5 l1_5.length l1_5) (hc1_5 : l1_5.length ≤ c1_5) (hr2_5 : Kd.C k37 w A2_5 l2_5.length l2_5) (hc2_5 : l2_5.length ≤ c2_5) (h : lockageref16_Fits.f k a0_0 a0_1 a0_2 a0_3 a0_4 l0_5 a0_6 a1_0 a1_1 a1_2 a1_3 a1_4 l1_5 a1_6 a2_0 a2_1 a2_2 a2_3 a2_4 l2_5 = some r) :
  Calls Tryz.prog 28 #[.agg #[.string a0_0, .string a0_1, .int .i64 a0_2, .string a0_3, .int .i64 a0_4, .slice A0_5 l0_5.length c0_5, .string a0_6], .agg #[.string a1_0, .string a1_1, .int .i64 a1_2, .string a1_3, .int .i64 a1_4, .slice A1_5 l1_5.length c1_5, .string a1_6], .agg #[.string a2_0, .string a2_1, .int .i64 a2_2, .string a2_3, .int .i64 a2_4, .slice A2_5 l2_5.length c2_5]] w fun e w' => e = .returned (.bool r) ∧ Below w.heap.size w w' := by
 have hu26 := Tryz.underlying26; have hu24 := Tryz.underlying24; have HR0_5 := aM hr0_5; have HC0_5 := aM hc0_5; clear hr0_5 hc0_5; have HR1_5 := aM hr1_5; have HC1_5 := aM hc1_5; clear hr1_5 hc1_5; have HR2_5 := aM hr2_5; have HC2_5 := aM hc2_5; clear hr2_5 hc2_5; have HB := aM (Below.refl w.heap.size w); have H := h; unfold lockageref16_Fits.f at H; clear h; obtain ⟨⟨t380, t381⟩, A4, H⟩ := zc H; (try dsimp only at H); by_cases c5 : t381 = true
 ·subst c5; rw [if_pos rfl] at H; obtain ⟨t384, A6, H⟩ := zc H; (try dsimp only at H); by_cases c7 : t384 = true
  ·subst c7; rw [if_pos rfl] at H; obtain rfl := Option.some.inj H
   go_enter Tryz.func28, Tryz.ntmps28
   try go_wp2_with (first | ((with_reducible refine gate_dst (N := 3) rfl ?_); (try (refine gate_guard (by rfl) ?_; dsimp only)); refine box_event ?hg (N := 3) ?hd (cs := #[.string a0_0, .string a0_1, .int .i64 a0_2, .string a0_3, .int .i64 a0_4, .slice A0_5 l0_5.length c0_5, .string a0_6]) (t := 26) ?hr ?_; (case hd => rfl); (case hg => rfl); (case hr => exact zG); intro gb377 hg w8 hbox hb; have BK377 := aM hbox; have GW377 := aM (by rw [hg]; exact (below_size zB) : w.heap.size ≤ gb377); replace HB := aM (below_step zB hb); have GE377 := GW377; clear hb hbox hg) | ((with_reducible refine gate_dst (N := 4) rfl ?_); (try (refine gate_guard (by rfl) ?_; dsimp only)); refine box_event ?hg (N := 4) ?hd (cs := #[.string a1_0, .string a1_1, .int .i64 a1_2, .string a1_3, .int .i64 a1_4, .slice A1_5 l1_5.length c1_5, .string a1_6]) (t := 26) ?hr ?_; (case hd => rfl); (case hg => rfl); (case hr => exact zG); intro gb378 hg w9 hbox hb; have BK378 := aM hbox; have GW378 := aM (by rw [hg]; exact (below_size zB) : w.heap.size ≤ gb378); replace HB := aM (below_step zB hb); have GE378 := GW378; have NB377_378 := aM (by rw [hg]; exact Nat.ne_of_lt (blk_lt (zK BK377.out)) : gb377 ≠ gb378); replace BK377 := aM (zX BK377.out hb); have NB378_377 := aM NB377_378.out.symm; clear hb hbox hg) | ((with_reducible refine gate_dst (N := 5) rfl ?_); (try (refine gate_guard (by rfl) ?_; dsimp only)); refine box_event ?hg (N := 5) ?hd (cs := #[.string a2_0, .string a2_1, .int .i64 a2_2, .string a2_3, .int .i64 a2_4, .slice A2_5 l2_5.length c2_5]) (t := 24) ?hr ?_; (case hd => rfl); (case hg => rfl); (case hr => exact zG); intro gb379 hg w10 hbox hb; have BK379 := aM hbox; have GW379 := aM (by rw [hg]; exact (below_size zB) : w.heap.size ≤ gb379); replace HB := aM (below_step zB hb); have GE379 := GW379; have NB377_379 := aM (by rw [hg]; exact Nat.ne_of_lt (blk_lt (zK BK377.out)) : gb377 ≠ gb379); replace BK377 := aM (zX BK377.out hb); have NB379_377 := aM NB377_379.out.symm; have NB378_379 := aM (by rw [hg]; exact Nat.ne_of_lt (blk_lt (zK BK378.out)) : gb378 ≠ gb379); replace BK378 := aM (zX BK378.out hb); have NB379_378 := aM NB378_379.out.symm; clear hb hbox hg; have hnb11 := NB379_377.out; have hnc11 := NB377_379.out; have hnb12 := NB379_378.out; have hnc12 := NB378_379.out; obtain ⟨_, _, _, _, _, _, _, _, _, _, _, _⟩ := cz6 BK379.out) | ((with_reducible refine gate_callee (f := 26) rfl ?_); refine goesL_ (some 12) rfl rfl Tryz.func26 (by kernel_rfl) rfl #[.slice A2_5 l2_5.length c2_5] rfl zL ?_; (with_reducible refine (lockageref16_Vary.calls k _ _ l2_5 t380 true _ ?side1 ?side2 A4.out).mono ?_); (case side1 => exact zC (Kd.C_below HR2_5.out HB.out)); (case side2 => exact HC2_5.out); rintro e w14 ⟨v382, rfl, ho0, hb⟩; refine ⟨_, rfl, ?_⟩; have HO383 := aM (Kd.R_lower ho0 (below_size zB)); replace BK377 := aM (zX BK377.out hb); replace BK378 := aM (zX BK378.out hb); replace BK379 := aM (zX BK379.out hb); replace HB := aM (below_step zB hb); clear hb ho0))
   replace HO383 := aM (rD HO383.out); replace BK377 := aM (bD BK377.out); replace BK378 := aM (bD BK378.out); replace BK379 := aM (bD BK379.out); replace HB := aM (lD HB.out)
   refine start_ (n := 34) (S := fun w' => w'.cell? ⟨gb379, 0, none⟩ = some (.string a2_0) ∧ w'.cell? ⟨gb379, 1, none⟩ = some (.string a2_1) ∧ w'.cell? ⟨gb379, 2, none⟩ = some (.int .i64 a2_2) ∧ w'.cell? ⟨gb379, 3, none⟩ = some (.string a2_3) ∧ w'.cell? ⟨gb379, 4, none⟩ = some (.int .i64 a2_4) ∧ w'.cell? ⟨gb379, 5, none⟩ = some (.slice A2_5 l2_5.length c2_5)) (ds := []) (dB 34 0) (by kernel_rfl) rfl rfl ⟨(blk_cell BK379.out 0).trans rfl, (blk_cell BK379.out 1).trans rfl, (blk_cell BK379.out 2).trans rfl, (blk_cell BK379.out 3).trans rfl, (blk_cell BK379.out 4).trans rfl, (blk_cell BK379.out 5).trans rfl⟩ (fun hHeld => ?_); refine with_tabW lockageref16_Fits.tab2 lockageref16_Fits.bits2 (fun HT_ HW_ => ?_)
   generalize w14.drew = w15 at HO383 BK377 BK378 BK379 HB hHeld ⊢
   refine pR 0 15 (dB 34 1) HT_.out ?_
   refine pR 1 16 (dB 34 3) HT_.out ?_
   refine pR 2 17 (dB 34 7) HT_.out ?_
   refine tR 3 18 (dB 34 15) HT_.out HW_.out hHeld ?_
   refine oR 4 19 (dB 34 31) HT_.out (fun K hK => ?_)
   refine goes_ Tryz.func35 (by kernel_rfl) rfl #[.slice A2_5 l2_5.length c2_5, .string (⟨#[112, 114, 105, 118, 97, 116, 101]⟩ : ByteArray)] (by rfl) rfl rfl zL ?_
   with_reducible refine (lockageref16_directs.calls k _ _ l2_5 (⟨#[112, 114, 105, 118, 97, 116, 101]⟩ : ByteArray) true _ ?side1 ?side2 A6.out).mono ?_
   (case side1 => exact zC (Kd.C_below HR2_5.out HB.out))
   (case side2 => exact HC2_5.out)
   rintro e w16 ⟨rfl, hb⟩
   refine ⟨_, rfl, ?_⟩
   replace HO383 := aM (Kd.R_below (zO HO383.out) hb); replace BK377 := aM (zX BK377.out hb); replace BK378 := aM (zX BK378.out hb); replace BK379 := aM (zX BK379.out hb); replace HB := aM (below_step zB hb)
   (try clear hb)
   (try clear hb2)
   (try clear hk)
   (try clear hi)
   refine hK.out _ _ ⟨(blk_cell BK379.out 0).trans rfl, (blk_cell BK379.out 1).trans rfl, (blk_cell BK379.out 2).trans rfl, (blk_cell BK379.out 3).trans rfl, (blk_cell BK379.out 4).trans rfl, (blk_cell BK379.out 5).trans rfl⟩ (fun hHeld => ?_)
   clear hK K
   refine norm_ (a' := ?_) ?_ ?_
   rotate_left
   ·show Act.put _ (some 19) _ = _
    exact zP
   refine pR 5 20 (dB 34 63) HT_.out ?_
   refine pR 6 21 (dB 34 127) HT_.out ?_
   refine pR 7 22 (dB 34 255) HT_.out ?_
   refine pure_ (i := 8) (N := some 23) (v := undef) (a' := ?_) (dB 34 511) rfl rfl (zT HT_.out) (fun _ _ _ h => h) (Or.inr ⟨by rfl, rfl⟩) ?_ ?_
   rotate_left
   ·exact zP
   refine pure_ (i := 9) (N := some 24) (v := undef) (a' := ?_) (dB 34 1023) rfl rfl (zT HT_.out) (fun _ _ _ h => h) (Or.inr ⟨by rfl, rfl⟩) ?_ ?_
   rotate_left
   ·exact zP
   refine pure_ (i := 10) (N := some 25) (v := undef) (a' := ?_) (dB 34 2047) rfl rfl (zT HT_.out) (fun _ _ _ h => h) (Or.inr ⟨by rfl, rfl⟩) ?_ ?_
   rotate_left
   ·exact zP
   refine pure_ (i := 11) (N := some 26) (v := undef) (a' := ?_) (dB 34 4095) rfl rfl (zT HT_.out) (fun _ _ _ h => h) (Or.inr ⟨by rfl, rfl⟩) ?_ ?_
   rotate_left
   ·exact zP
   refine pR 12 27 (dB 34 8191) HT_.out ?_
   refine pR 13 28 (dB 34 16383) HT_.out ?_
   refine pure_ (i := 14) (N := some 29) (v := undef) (a' := ?_) (dB 34 32767) rfl rfl (zT HT_.out) (fun _ _ _ h => h) (Or.inr ⟨by rfl, rfl⟩) ?_ ?_
   rotate_left
   ·exact zP
   refine pure_ (i := 15) (N := some 30) (v := undef) (a' := ?_) (dB 34 65535) rfl rfl (zT HT_.out) (fun _ _ _ h => h) (Or.inr ⟨by rfl, rfl⟩) ?_ ?_
   rotate_left
   ·exact zP
   refine pure_ (i := 16) (N := some 31) (v := undef) (a' := ?_) (dB 34 131071) rfl rfl (zT HT_.out) (fun _ _ _ h => h) (Or.inr ⟨by rfl, rfl⟩) ?_ ?_
   rotate_left
   ·exact zP
   refine pure_ (i := 17) (N := some 32) (v := undef) (a' := ?_) (dB 34 262143) rfl rfl (zT HT_.out) (fun _ _ _ h => h) (Or.inr ⟨by rfl, rfl⟩) ?_ ?_
   rotate_left
   ·exact zP
   refine pure_ (i := 18) (N := some 33) (v := undef) (a' := ?_) (dB 34 524287) rfl rfl (zT HT_.out) (fun _ _ _ h => h) (Or.inr ⟨by rfl, rfl⟩) ?_ ?_
   rotate_left
   ·exact zP
   refine pR 19 34 (dB 34 1048575) HT_.out ?_
   refine pR 20 35 (dB 34 2097151) HT_.out ?_
   refine pure_ (i := 21) (N := some 36) (v := undef) (a' := ?_) (dB 34 4194303) rfl rfl (zT HT_.out) (fun _ _ _ h => h) (Or.inr ⟨by rfl, rfl⟩) ?_ ?_
   rotate_left
   ·exact zP
   refine pure_ (i := 22) (N := some 37) (v := undef) (a' := ?_) (dB 34 8388607) rfl rfl (zT HT_.out) (fun _ _ _ h => h) (Or.inr ⟨by rfl, rfl⟩) ?_ ?_
   rotate_left
   ·exact zP
   refine pure_ (i := 23) (N := some 38) (v := undef) (a' := ?_) (dB 34 16777215) rfl rfl (zT HT_.out) (fun _ _ _ h => h) (Or.inr ⟨by rfl, rfl⟩) ?_ ?_
   rotate_left
   ·exact zP
   refine pure_ (i := 24) (N := some 39) (v := undef) (a' := ?_) (dB 34 33554431) rfl rfl (zT HT_.out) (fun _ _ _ h => h) (Or.inr ⟨by rfl, rfl⟩) ?_ ?_
   rotate_left
   ·exact zP
   refine pure_ (i := 25) (N := some 40) (v := undef) (a' := ?_) (dB 34 67108863) rfl rfl (zT HT_.out) (fun _ _ _ h => h) (Or.inr ⟨by rfl, rfl⟩) ?_ ?_
   rotate_left
   ·exact zP
   refine pure_ (i := 26) (N := some 41) (v := undef) (a' := ?_) (dB 34 134217727) rfl rfl (zT HT_.out) (fun _ _ _ h => h) (Or.inr ⟨by rfl, rfl⟩) ?_ ?_
   rotate_left
   ·exact zP
   refine pure_ (i := 27) (N := some 42) (v := undef) (a' := ?_) (dB 34 268435455) rfl rfl (zT HT_.out) (fun _ _ _ h => h) (Or.inr ⟨by rfl, rfl⟩) ?_ ?_
   rotate_left
   ·exact zP
   refine pure_ (i := 28) (N := some 43) (v := undef) (a' := ?_) (dB 34 536870911) rfl rfl (zT HT_.out) (fun _ _ _ h => h) (Or.inr ⟨by rfl, rfl⟩) ?_ ?_
   rotate_left
   ·exact zP
   refine pure_ (i := 29) (N := some 44) (v := undef) (a' := ?_) (dB 34 1073741823) rfl rfl (zT HT_.out) (fun _ _ _ h => h) (Or.inr ⟨by rfl, rfl⟩) ?_ ?_
   rotate_left
   ·exact zP
   refine pure_ (i := 30) (N := some 45) (v := undef) (a' := ?_) (dB 34 2147483647) rfl rfl (zT HT_.out) (fun _ _ _ h => h) (Or.inr ⟨by rfl, rfl⟩) ?_ ?_
   rotate_left
   ·exact zP
   refine pure_ (i := 31) (N := some 46) (v := undef) (a' := ?_) (dB 34 4294967295) rfl rfl (zT HT_.out) (fun _ _ _ h => h) (Or.inr ⟨by rfl, rfl⟩) ?_ ?_
   rotate_left
   ·exact zP
   refine pR 32 47 (dB 34 8589934591) HT_.out ?_
   refine pR 33 6 (dB 34 17179869183) HT_.out ?_
   refine done_ (done_of HT_.out (by kernel_rfl)) ?_
   try go_wp2
   go_ret
   exact ⟨zE, zB⟩
  ·replace c7 := Bool.eq_false_iff.mpr c7; subst c7; rw [if_neg (show ¬ (false = true) by decide)] at H; obtain ⟨t385, A17, H⟩ := zc H; (try dsimp only at H); by_cases c18 : t385 = true
   ·subst c18; rw [if_pos rfl] at H; obtain rfl := Option.some.inj H
    go_enter Tryz.func28, Tryz.ntmps28
    try go_wp2_with (first | ((with_reducible refine gate_dst (N := 3) rfl ?_); (try (refine gate_guard (by rfl) ?_; dsimp only)); refine box_event ?hg (N := 3) ?hd (cs := #[.string a0_0, .string a0_1, .int .i64 a0_2, .string a0_3, .int .i64 a0_4, .slice A0_5 l0_5.length c0_5, .string a0_6]) (t := 26) ?hr ?_; (case hd => rfl); (case hg => rfl); (case hr => exact zG); intro gb377 hg w19 hbox hb; have BK377 := aM hbox; have GW377 := aM (by rw [hg]; exact (below_size zB) : w.heap.size ≤ gb377); replace HB := aM (below_step zB hb); have GE377 := GW377; clear hb hbox hg) | ((with_reducible refine gate_dst (N := 4) rfl ?_); (try (refine gate_guard (by rfl) ?_; dsimp only)); refine box_event ?hg (N := 4) ?hd (cs := #[.string a1_0, .string a1_1, .int .i64 a1_2, .string a1_3, .int .i64 a1_4, .slice A1_5 l1_5.length c1_5, .string a1_6]) (t := 26) ?hr ?_; (case hd => rfl); (case hg => rfl); (case hr => exact zG); intro gb378 hg w20 hbox hb; have BK378 := aM hbox; have GW378 := aM (by rw [hg]; exact (below_size zB) : w.heap.size ≤ gb378); replace HB := aM (below_step zB hb); have GE378 := GW378; have NB377_378 := aM (by rw [hg]; exact Nat.ne_of_lt (blk_lt (zK BK377.out)) : gb377 ≠ gb378); replace BK377 := aM (zX BK377.out hb); have NB378_377 := aM NB377_378.out.symm; clear hb hbox hg) | ((with_reducible refine gate_dst (N := 5) rfl ?_); (try (refine gate_guard (by rfl) ?_; dsimp only)); refine box_event ?hg (N := 5) ?hd (cs := #[.string a2_0, .string a2_1, .int .i64 a2_2, .string a2_3, .int .i64 a2_4, .slice A2_5 l2_5.length c2_5]) (t := 24) ?hr ?_; (case hd => rfl); (case hg => rfl); (case hr => exact zG); intro gb379 hg w21 hbox hb; have BK379 := aM hbox; have GW379 := aM (by rw [hg]; exact (below_size zB) : w.heap.size ≤ gb379); replace HB := aM (below_step zB hb); have GE379 := GW379; have NB377_379 := aM (by rw [hg]; exact Nat.ne_of_lt (blk_lt (zK BK377.out)) : gb377 ≠ gb379); replace BK377 := aM (zX BK377.out hb); have NB379_377 := aM NB377_379.out.symm; have NB378_379 := aM (by rw [hg]; exact Nat.ne_of_lt (blk_lt (zK BK378.out)) : gb378 ≠ gb379); replace BK378 := aM (zX BK378.out hb); have NB379_378 := aM NB378_379.out.symm; clear hb hbox hg; have hnb22 := NB379_377.out; have hnc22 := NB377_379.out; have hnb23 := NB379_378.out; have hnc23 := NB378_379.out; obtain ⟨_, _, _, _, _, _, _, _, _, _, _, _⟩ := cz6 BK379.out) | ((with_reducible refine gate_callee (f := 26) rfl ?_); refine goesL_ (some 12) rfl rfl Tryz.func26 (by kernel_rfl) rfl #[.slice A2_5 l2_5.length c2_5] rfl zL ?_; (with_reducible refine (lockageref16_Vary.calls k _ _ l2_5 t380 true _ ?side1 ?side2 A4.out).mono ?_); (case side1 => exact zC (Kd.C_below HR2_5.out HB.out)); (case side2 => exact HC2_5.out); rintro e w25 ⟨v382, rfl, ho0, hb⟩; refine ⟨_, rfl, ?_⟩; have HO383 := aM (Kd.R_lower ho0 (below_size zB)); replace BK377 := aM (zX BK377.out hb); replace BK378 := aM (zX BK378.out hb); replace BK379 := aM (zX BK379.out hb); replace HB := aM (below_step zB hb); clear hb ho0))
    replace HO383 := aM (rD HO383.out); replace BK377 := aM (bD BK377.out); replace BK378 := aM (bD BK378.out); replace BK379 := aM (bD BK379.out); replace HB := aM (lD HB.out)
    refine start_ (n := 34) (S := fun w' => w'.cell? ⟨gb379, 0, none⟩ = some (.string a2_0) ∧ w'.cell? ⟨gb379, 1, none⟩ = some (.string a2_1) ∧ w'.cell? ⟨gb379, 2, none⟩ = some (.int .i64 a2_2) ∧ w'.cell? ⟨gb379, 3, none⟩ = some (.string a2_3) ∧ w'.cell? ⟨gb379, 4, none⟩ = some (.int .i64 a2_4) ∧ w'.cell? ⟨gb379, 5, none⟩ = some (.slice A2_5 l2_5.length c2_5)) (ds := []) (dB 34 0) (by kernel_rfl) rfl rfl ⟨(blk_cell BK379.out 0).trans rfl, (blk_cell BK379.out 1).trans rfl, (blk_cell BK379.out 2).trans rfl, (blk_cell BK379.out 3).trans rfl, (blk_cell BK379.out 4).trans rfl, (blk_cell BK379.out 5).trans rfl⟩ (fun hHeld => ?_); refine with_tabW lockageref16_Fits.tab2 lockageref16_Fits.bits2 (fun HT_ HW_ => ?_)
    generalize w25.drew = w26 at HO383 BK377 BK378 BK379 HB hHeld ⊢
    refine pR 0 15 (dB 34 1) HT_.out ?_
    refine pR 1 16 (dB 34 3) HT_.out ?_
    refine pR 2 17 (dB 34 7) HT_.out ?_
    refine tR 3 18 (dB 34 15) HT_.out HW_.out hHeld ?_
    refine oR 4 19 (dB 34 31) HT_.out (fun K hK => ?_)
    refine goes_ Tryz.func35 (by kernel_rfl) rfl #[.slice A2_5 l2_5.length c2_5, .string (⟨#[112, 114, 105, 118, 97, 116, 101]⟩ : ByteArray)] (by rfl) rfl rfl zL ?_
    with_reducible refine (lockageref16_directs.calls k _ _ l2_5 (⟨#[112, 114, 105, 118, 97, 116, 101]⟩ : ByteArray) false _ ?side1 ?side2 A6.out).mono ?_
    (case side1 => exact zC (Kd.C_below HR2_5.out HB.out))
    (case side2 => exact HC2_5.out)
    rintro e w27 ⟨rfl, hb⟩
    refine ⟨_, rfl, ?_⟩
    replace HO383 := aM (Kd.R_below (zO HO383.out) hb); replace BK377 := aM (zX BK377.out hb); replace BK378 := aM (zX BK378.out hb); replace BK379 := aM (zX BK379.out hb); replace HB := aM (below_step zB hb)
    (try clear hb)
    (try clear hb2)
    (try clear hk)
    (try clear hi)
    refine hK.out _ _ ⟨(blk_cell BK379.out 0).trans rfl, (blk_cell BK379.out 1).trans rfl, (blk_cell BK379.out 2).trans rfl, (blk_cell BK379.out 3).trans rfl, (blk_cell BK379.out 4).trans rfl, (blk_cell BK379.out 5).trans rfl⟩ (fun hHeld => ?_)
    clear hK K
    refine norm_ (a' := ?_) ?_ ?_
    rotate_left
    ·show Act.put _ (some 19) _ = _
     exact zP
    refine pR 5 20 (dB 34 63) HT_.out ?_
    refine pR 6 21 (dB 34 127) HT_.out ?_
    refine pR 7 22 (dB 34 255) HT_.out ?_
    refine pR 8 23 (dB 34 511) HT_.out ?_
    refine tR 9 24 (dB 34 1023) HT_.out HW_.out hHeld ?_
    refine oR 10 25 (dB 34 2047) HT_.out (fun K hK => ?_)
    refine goes_ Tryz.func35 (by kernel_rfl) rfl #[.slice A2_5 l2_5.length c2_5, .string (⟨#[110, 111, 45, 115, 116, 111, 114, 101]⟩ : ByteArray)] (by rfl) rfl rfl zL ?_
    with_reducible refine (lockageref16_directs.calls k _ _ l2_5 (⟨#[110, 111, 45, 115, 116, 111, 114, 101]⟩ : ByteArray) true _ ?side1 ?side2 A17.out).mono ?_
    (case side1 => exact zC (Kd.C_below HR2_5.out HB.out))
    (case side2 => exact HC2_5.out)
    rintro e w28 ⟨rfl, hb⟩
    refine ⟨_, rfl, ?_⟩
    replace HO383 := aM (Kd.R_below (zO HO383.out) hb); replace BK377 := aM (zX BK377.out hb); replace BK378 := aM (zX BK378.out hb); replace BK379 := aM (zX BK379.out hb); replace HB := aM (below_step zB hb)
    (try clear hb)
    (try clear hb2)
    (try clear hk)
    (try clear hi)
    refine hK.out _ _ ⟨(blk_cell BK379.out 0).trans rfl, (blk_cell BK379.out 1).trans rfl, (blk_cell BK379.out 2).trans rfl, (blk_cell BK379.out 3).trans rfl, (blk_cell BK379.out 4).trans rfl, (blk_cell BK379.out 5).trans rfl⟩ (fun hHeld => ?_)
    clear hK K
    refine norm_ (a' := ?_) ?_ ?_
    rotate_left
    ·show Act.put _ (some 25) _ = _
     exact zP
    refine pR 11 26 (dB 34 4095) HT_.out ?_
    refine pR 12 27 (dB 34 8191) HT_.out ?_
    refine pR 13 28 (dB 34 16383) HT_.out ?_
    refine pure_ (i := 14) (N := some 29) (v := undef) (a' := ?_) (dB 34 32767) rfl rfl (zT HT_.out) (fun _ _ _ h => h) (Or.inr ⟨by rfl, rfl⟩) ?_ ?_
    rotate_left
    ·exact zP
    refine pure_ (i := 15) (N := some 30) (v := undef) (a' := ?_) (dB 34 65535) rfl rfl (zT HT_.out) (fun _ _ _ h => h) (Or.inr ⟨by rfl, rfl⟩) ?_ ?_
    rotate_left
    ·exact zP
    refine pure_ (i := 16) (N := some 31) (v := undef) (a' := ?_) (dB 34 131071) rfl rfl (zT HT_.out) (fun _ _ _ h => h) (Or.inr ⟨by rfl, rfl⟩) ?_ ?_
    rotate_left
    ·exact zP
    refine pure_ (i := 17) (N := some 32) (v := undef) (a' := ?_) (dB 34 262143) rfl rfl (zT HT_.out) (fun _ _ _ h => h) (Or.inr ⟨by rfl, rfl⟩) ?_ ?_
    rotate_left
    ·exact zP
    refine pure_ (i := 18) (N := some 33) (v := undef) (a' := ?_) (dB 34 524287) rfl rfl (zT HT_.out) (fun _ _ _ h => h) (Or.inr ⟨by rfl, rfl⟩) ?_ ?_
    rotate_left
    ·exact zP
    refine pR 19 34 (dB 34 1048575) HT_.out ?_
    refine pR 20 35 (dB 34 2097151) HT_.out ?_
    refine pure_ (i := 21) (N := some 36) (v := undef) (a' := ?_) (dB 34 4194303) rfl rfl (zT HT_.out) (fun _ _ _ h => h) (Or.inr ⟨by rfl, rfl⟩) ?_ ?_
    rotate_left
    ·exact zP
    refine pure_ (i := 22) (N := some 37) (v := undef) (a' := ?_) (dB 34 8388607) rfl rfl (zT HT_.out) (fun _ _ _ h => h) (Or.inr ⟨by rfl, rfl⟩) ?_ ?_
    rotate_left
    ·exact zP
    refine pure_ (i := 23) (N := some 38) (v := undef) (a' := ?_) (dB 34 16777215) rfl rfl (zT HT_.out) (fun _ _ _ h => h) (Or.inr ⟨by rfl, rfl⟩) ?_ ?_
    rotate_left
    ·exact zP
    refine pure_ (i := 24) (N := some 39) (v := undef) (a' := ?_) (dB 34 33554431) rfl rfl (zT HT_.out) (fun _ _ _ h => h) (Or.inr ⟨by rfl, rfl⟩) ?_ ?_
    rotate_left
    ·exact zP
    refine pure_ (i := 25) (N := some 40) (v := undef) (a' := ?_) (dB 34 67108863) rfl rfl (zT HT_.out) (fun _ _ _ h => h) (Or.inr ⟨by rfl, rfl⟩) ?_ ?_
    rotate_left
    ·exact zP
    refine pure_ (i := 26) (N := some 41) (v := undef) (a' := ?_) (dB 34 134217727) rfl rfl (zT HT_.out) (fun _ _ _ h => h) (Or.inr ⟨by rfl, rfl⟩) ?_ ?_
    rotate_left
    ·exact zP
    refine pure_ (i := 27) (N := some 42) (v := undef) (a' := ?_) (dB 34 268435455) rfl rfl (zT HT_.out) (fun _ _ _ h => h) (Or.inr ⟨by rfl, rfl⟩) ?_ ?_
    rotate_left
    ·exact zP
    refine pure_ (i := 28) (N := some 43) (v := undef) (a' := ?_) (dB 34 536870911) rfl rfl (zT HT_.out) (fun _ _ _ h => h) (Or.inr ⟨by rfl, rfl⟩) ?_ ?_
    rotate_left
    ·exact zP
    refine pure_ (i := 29) (N := some 44) (v := undef) (a' := ?_) (dB 34 1073741823) rfl rfl (zT HT_.out) (fun _ _ _ h => h) (Or.inr ⟨by rfl, rfl⟩) ?_ ?_
    rotate_left
    ·exact zP
    refine pure_ (i := 30) (N := some 45) (v := undef) (a' := ?_) (dB 34 2147483647) rfl rfl (zT HT_.out) (fun _ _ _ h => h) (Or.inr ⟨by rfl, rfl⟩) ?_ ?_
    rotate_left
    ·exact zP
    refine pure_ (i := 31) (N := some 46) (v := undef) (a' := ?_) (dB 34 4294967295) rfl rfl (zT HT_.out) (fun _ _ _ h => h) (Or.inr ⟨by rfl, rfl⟩) ?_ ?_
    rotate_left
    ·exact zP
    refine pR 32 47 (dB 34 8589934591) HT_.out ?_
    refine pR 33 6 (dB 34 17179869183) HT_.out ?_
    refine done_ (done_of HT_.out (by kernel_rfl)) ?_
    try go_wp2
    go_ret
    exact ⟨zE, zB⟩
   ·replace c18 := Bool.eq_false_iff.mpr c18; subst c18; rw [if_neg (show ¬ (false = true) by decide)] at H; obtain ⟨t386, A29, H⟩ := zc H; (try dsimp only at H); by_cases c30 : (t386.length : Int) = 0
    ·rw [if_pos c30] at H; obtain ⟨c30b0, c30b1⟩ := zd c30; clear c30; replace H := Option.bind_eq_some_iff.mp H; obtain ⟨t389, A310, H⟩ := H; replace H : ((lockageref16_Split.f k t380 l1_5).bind fun t390 => (some (t389.toList == t390.toList))) = some r := H; have A31 := aM A310; clear A310; replace H := Option.bind_eq_some_iff.mp H; obtain ⟨t390, A320, H⟩ := H; replace H : (some (t389.toList == t390.toList)) = some r := H; have A32 := aM A320; clear A320; obtain rfl := Option.some.inj H
     go_enter Tryz.func28, Tryz.ntmps28
     try go_wp2_with (first | ((with_reducible refine gate_dst (N := 3) rfl ?_); (try (refine gate_guard (by rfl) ?_; dsimp only)); refine box_event ?hg (N := 3) ?hd (cs := #[.string a0_0, .string a0_1, .int .i64 a0_2, .string a0_3, .int .i64 a0_4, .slice A0_5 l0_5.length c0_5, .string a0_6]) (t := 26) ?hr ?_; (case hd => rfl); (case hg => rfl); (case hr => exact zG); intro gb377 hg w33 hbox hb; have BK377 := aM hbox; have GW377 := aM (by rw [hg]; exact (below_size zB) : w.heap.size ≤ gb377); replace HB := aM (below_step zB hb); have GE377 := GW377; clear hb hbox hg) | ((with_reducible refine gate_dst (N := 4) rfl ?_); (try (refine gate_guard (by rfl) ?_; dsimp only)); refine box_event ?hg (N := 4) ?hd (cs := #[.string a1_0, .string a1_1, .int .i64 a1_2, .string a1_3, .int .i64 a1_4, .slice A1_5 l1_5.length c1_5, .string a1_6]) (t := 26) ?hr ?_; (case hd => rfl); (case hg => rfl); (case hr => exact zG); intro gb378 hg w34 hbox hb; have BK378 := aM hbox; have GW378 := aM (by rw [hg]; exact (below_size zB) : w.heap.size ≤ gb378); replace HB := aM (below_step zB hb); have GE378 := GW378; have NB377_378 := aM (by rw [hg]; exact Nat.ne_of_lt (blk_lt (zK BK377.out)) : gb377 ≠ gb378); replace BK377 := aM (zX BK377.out hb); have NB378_377 := aM NB377_378.out.symm; clear hb hbox hg) | ((with_reducible refine gate_dst (N := 5) rfl ?_); (try (refine gate_guard (by rfl) ?_; dsimp only)); refine box_event ?hg (N := 5) ?hd (cs := #[.string a2_0, .string a2_1, .int .i64 a2_2, .string a2_3, .int .i64 a2_4, .slice A2_5 l2_5.length c2_5]) (t := 24) ?hr ?_; (case hd => rfl); (case hg => rfl); (case hr => exact zG); intro gb379 hg w35 hbox hb; have BK379 := aM hbox; have GW379 := aM (by rw [hg]; exact (below_size zB) : w.heap.size ≤ gb379); replace HB := aM (below_step zB hb); have GE379 := GW379; have NB377_379 := aM (by rw [hg]; exact Nat.ne_of_lt (blk_lt (zK BK377.out)) : gb377 ≠ gb379); replace BK377 := aM (zX BK377.out hb); have NB379_377 := aM NB377_379.out.symm; have NB378_379 := aM (by rw [hg]; exact Nat.ne_of_lt (blk_lt (zK BK378.out)) : gb378 ≠ gb379); replace BK378 := aM (zX BK378.out hb); have NB379_378 := aM NB378_379.out.symm; clear hb hbox hg; have hnb36 := NB379_377.out; have hnc36 := NB377_379.out; have hnb37 := NB379_378.out; have hnc37 := NB378_379.out; obtain ⟨_, _, _, _, _, _, _, _, _, _, _, _⟩ := cz6 BK379.out) | ((with_reducible refine gate_callee (f := 26) rfl ?_); refine goesL_ (some 12) rfl rfl Tryz.func26 (by kernel_rfl) rfl #[.slice A2_5 l2_5.length c2_5] rfl zL ?_; (with_reducible refine (lockageref16_Vary.calls k _ _ l2_5 t380 true _ ?side1 ?side2 A4.out).mono ?_); (case side1 => exact zC (Kd.C_below HR2_5.out HB.out)); (case side2 => exact HC2_5.out); rintro e w39 ⟨v382, rfl, ho0, hb⟩; refine ⟨_, rfl, ?_⟩; have HO383 := aM (Kd.R_lower ho0 (below_size zB)); replace BK377 := aM (zX BK377.out hb); replace BK378 := aM (zX BK378.out hb); replace BK379 := aM (zX BK379.out hb); replace HB := aM (below_step zB hb); clear hb ho0))
     replace HO383 := aM (rD HO383.out); replace BK377 := aM (bD BK377.out); replace BK378 := aM (bD BK378.out); replace BK379 := aM (bD BK379.out); replace HB := aM (lD HB.out)
     refine start_ (n := 34) (S := fun w' => w'.cell? ⟨gb379, 0, none⟩ = some (.string a2_0) ∧ w'.cell? ⟨gb379, 1, none⟩ = some (.string a2_1) ∧ w'.cell? ⟨gb379, 2, none⟩ = some (.int .i64 a2_2) ∧ w'.cell? ⟨gb379, 3, none⟩ = some (.string a2_3) ∧ w'.cell? ⟨gb379, 4, none⟩ = some (.int .i64 a2_4) ∧ w'.cell? ⟨gb379, 5, none⟩ = some (.slice A2_5 l2_5.length c2_5) ∧ w'.cell? ⟨gb377, 0, none⟩ = some (.string a0_0) ∧ w'.cell? ⟨gb377, 1, none⟩ = some (.string a0_1) ∧ w'.cell? ⟨gb377, 2, none⟩ = some (.int .i64 a0_2) ∧ w'.cell? ⟨gb377, 3, none⟩ = some (.string a0_3) ∧ w'.cell? ⟨gb377, 4, none⟩ = some (.int .i64 a0_4) ∧ w'.cell? ⟨gb377, 5, none⟩ = some (.slice A0_5 l0_5.length c0_5) ∧ w'.cell? ⟨gb377, 6, none⟩ = some (.string a0_6) ∧ w'.cell? ⟨gb378, 0, none⟩ = some (.string a1_0) ∧ w'.cell? ⟨gb378, 1, none⟩ = some (.string a1_1) ∧ w'.cell? ⟨gb378, 2, none⟩ = some (.int .i64 a1_2) ∧ w'.cell? ⟨gb378, 3, none⟩ = some (.string a1_3) ∧ w'.cell? ⟨gb378, 4, none⟩ = some (.int .i64 a1_4) ∧ w'.cell? ⟨gb378, 5, none⟩ = some (.slice A1_5 l1_5.length c1_5) ∧ w'.cell? ⟨gb378, 6, none⟩ = some (.string a1_6)) (ds := []) (dB 34 0) (by kernel_rfl) rfl rfl ⟨(blk_cell BK379.out 0).trans rfl, (blk_cell BK379.out 1).trans rfl, (blk_cell BK379.out 2).trans rfl, (blk_cell BK379.out 3).trans rfl, (blk_cell BK379.out 4).trans rfl, (blk_cell BK379.out 5).trans rfl, (blk_cell BK377.out 0).trans rfl, (blk_cell BK377.out 1).trans rfl, (blk_cell BK377.out 2).trans rfl, (blk_cell BK377.out 3).trans rfl, (blk_cell BK377.out 4).trans rfl, (blk_cell BK377.out 5).trans rfl, (blk_cell BK377.out 6).trans rfl, (blk_cell BK378.out 0).trans rfl, (blk_cell BK378.out 1).trans rfl, (blk_cell BK378.out 2).trans rfl, (blk_cell BK378.out 3).trans rfl, (blk_cell BK378.out 4).trans rfl, (blk_cell BK378.out 5).trans rfl, (blk_cell BK378.out 6).trans rfl⟩ (fun hHeld => ?_); refine with_tabW lockageref16_Fits.tab2 lockageref16_Fits.bits2 (fun HT_ HW_ => ?_)
     generalize w39.drew = w40 at HO383 BK377 BK378 BK379 HB hHeld ⊢
     refine pR 0 15 (dB 34 1) HT_.out ?_
     refine pR 1 16 (dB 34 3) HT_.out ?_
     refine pR 2 17 (dB 34 7) HT_.out ?_
     refine tR 3 18 (dB 34 15) HT_.out HW_.out hHeld ?_
     refine oR 4 19 (dB 34 31) HT_.out (fun K hK => ?_)
     refine goes_ Tryz.func35 (by kernel_rfl) rfl #[.slice A2_5 l2_5.length c2_5, .string (⟨#[112, 114, 105, 118, 97, 116, 101]⟩ : ByteArray)] (by rfl) rfl rfl zL ?_
     with_reducible refine (lockageref16_directs.calls k _ _ l2_5 (⟨#[112, 114, 105, 118, 97, 116, 101]⟩ : ByteArray) false _ ?side1 ?side2 A6.out).mono ?_
     (case side1 => exact zC (Kd.C_below HR2_5.out HB.out))
     (case side2 => exact HC2_5.out)
     rintro e w41 ⟨rfl, hb⟩
     refine ⟨_, rfl, ?_⟩
     replace HO383 := aM (Kd.R_below (zO HO383.out) hb); replace BK377 := aM (zX BK377.out hb); replace BK378 := aM (zX BK378.out hb); replace BK379 := aM (zX BK379.out hb); replace HB := aM (below_step zB hb)
     (try clear hb)
     (try clear hb2)
     (try clear hk)
     (try clear hi)
     refine hK.out _ _ ⟨(blk_cell BK379.out 0).trans rfl, (blk_cell BK379.out 1).trans rfl, (blk_cell BK379.out 2).trans rfl, (blk_cell BK379.out 3).trans rfl, (blk_cell BK379.out 4).trans rfl, (blk_cell BK379.out 5).trans rfl, (blk_cell BK377.out 0).trans rfl, (blk_cell BK377.out 1).trans rfl, (blk_cell BK377.out 2).trans rfl, (blk_cell BK377.out 3).trans rfl, (blk_cell BK377.out 4).trans rfl, (blk_cell BK377.out 5).trans rfl, (blk_cell BK377.out 6).trans rfl, (blk_cell BK378.out 0).trans rfl, (blk_cell BK378.out 1).trans rfl, (blk_cell BK378.out 2).trans rfl, (blk_cell BK378.out 3).trans rfl, (blk_cell BK378.out 4).trans rfl, (blk_cell BK378.out 5).trans rfl, (blk_cell BK378.out 6).trans rfl⟩ (fun hHeld => ?_)
     clear hK K
     refine norm_ (a' := ?_) ?_ ?_
     rotate_left
     ·show Act.put _ (some 19) _ = _
      exact zP
     refine pR 5 20 (dB 34 63) HT_.out ?_
     refine pR 6 21 (dB 34 127) HT_.out ?_
     refine pR 7 22 (dB 34 255) HT_.out ?_
     refine pR 8 23 (dB 34 511) HT_.out ?_
     refine tR 9 24 (dB 34 1023) HT_.out HW_.out hHeld ?_
     refine oR 10 25 (dB 34 2047) HT_.out (fun K hK => ?_)
     refine goes_ Tryz.func35 (by kernel_rfl) rfl #[.slice A2_5 l2_5.length c2_5, .string (⟨#[110, 111, 45, 115, 116, 111, 114, 101]⟩ : ByteArray)] (by rfl) rfl rfl zL ?_
     with_reducible refine (lockageref16_directs.calls k _ _ l2_5 (⟨#[110, 111, 45, 115, 116, 111, 114, 101]⟩ : ByteArray) false _ ?side1 ?side2 A17.out).mono ?_
     (case side1 => exact zC (Kd.C_below HR2_5.out HB.out))
     (case side2 => exact HC2_5.out)
     rintro e w42 ⟨rfl, hb⟩
     refine ⟨_, rfl, ?_⟩
     replace HO383 := aM (Kd.R_below (zO HO383.out) hb); replace BK377 := aM (zX BK377.out hb); replace BK378 := aM (zX BK378.out hb); replace BK379 := aM (zX BK379.out hb); replace HB := aM (below_step zB hb)
     (try clear hb)
     (try clear hb2)
     (try clear hk)
     (try clear hi)
     refine hK.out _ _ ⟨(blk_cell BK379.out 0).trans rfl, (blk_cell BK379.out 1).trans rfl, (blk_cell BK379.out 2).trans rfl, (blk_cell BK379.out 3).trans rfl, (blk_cell BK379.out 4).trans rfl, (blk_cell BK379.out 5).trans rfl, (blk_cell BK377.out 0).trans rfl, (blk_cell BK377.out 1).trans rfl, (blk_cell BK377.out 2).trans rfl, (blk_cell BK377.out 3).trans rfl, (blk_cell BK377.out 4).trans rfl, (blk_cell BK377.out 5).trans rfl, (blk_cell BK377.out 6).trans rfl, (blk_cell BK378.out 0).trans rfl, (blk_cell BK378.out 1).trans rfl, (blk_cell BK378.out 2).trans rfl, (blk_cell BK378.out 3).trans rfl, (blk_cell BK378.out 4).trans rfl, (blk_cell BK378.out 5).trans rfl, (blk_cell BK378.out 6).trans rfl⟩ (fun hHeld => ?_)
     clear hK K
     refine norm_ (a' := ?_) ?_ ?_
     rotate_left
     ·show Act.put _ (some 25) _ = _
      exact zP
     refine pR 11 26 (dB 34 4095) HT_.out ?_
     refine pR 12 27 (dB 34 8191) HT_.out ?_
     refine pR 13 28 (dB 34 16383) HT_.out ?_
     refine pR 14 29 (dB 34 32767) HT_.out ?_
     refine tR 15 30 (dB 34 65535) HT_.out HW_.out hHeld ?_
     refine oR 16 31 (dB 34 131071) HT_.out (fun K hK => ?_)
     refine goes_ Tryz.func21 (by kernel_rfl) rfl #[.slice A2_5 l2_5.length c2_5, .string (⟨#[115, 101, 116, 45, 99, 111, 111, 107, 105, 101]⟩ : ByteArray)] (by rfl) rfl rfl zL ?_
     with_reducible refine (lockageref05_Get.calls k _ _ l2_5 (⟨#[115, 101, 116, 45, 99, 111, 111, 107, 105, 101]⟩ : ByteArray) t386 _ ?side1 ?side2 A29.out).mono ?_
     (case side1 => exact zC (Kd.C_below HR2_5.out HB.out))
     (case side2 => exact HC2_5.out)
     rintro e w43 ⟨v387, rfl, ho0, hb⟩
     refine ⟨_, rfl, ?_⟩
     have HO388 := aM (Kd.R_lower (Kd.R_new' ho0 (Kd.R_lt (zO HO383.out))) (below_size zB)); replace HO383 := aM (Kd.R_elder' (zO HO383.out) (Kd.R_base ho0) hb); replace BK377 := aM (zX BK377.out hb); replace BK378 := aM (zX BK378.out hb); replace BK379 := aM (zX BK379.out hb); replace HB := aM (below_step zB hb)
     (try clear hb)
     (try clear hb2)
     (try clear hk)
     (try clear hi)
     (try clear ho0)
     obtain ⟨Ao44, co44, eo44⟩ := Kd.R_slice HO388.out
     (first | subst eo44 | (injection eo44 with f1_ f2_ f3_; have f4_ := f1_.symm; have f5_ := f3_.symm; clear f1_ f2_ f3_; subst f4_; subst f5_))
     obtain ⟨Ao45, co45, eo45⟩ := Kd.R_slice HO383.out
     (first | subst eo45 | (injection eo45 with f1_ f2_ f3_; have f4_ := f1_.symm; have f5_ := f3_.symm; clear f1_ f2_ f3_; subst f4_; subst f5_))
     refine hK.out _ _ ⟨(blk_cell BK379.out 0).trans rfl, (blk_cell BK379.out 1).trans rfl, (blk_cell BK379.out 2).trans rfl, (blk_cell BK379.out 3).trans rfl, (blk_cell BK379.out 4).trans rfl, (blk_cell BK379.out 5).trans rfl, (blk_cell BK377.out 0).trans rfl, (blk_cell BK377.out 1).trans rfl, (blk_cell BK377.out 2).trans rfl, (blk_cell BK377.out 3).trans rfl, (blk_cell BK377.out 4).trans rfl, (blk_cell BK377.out 5).trans rfl, (blk_cell BK377.out 6).trans rfl, (blk_cell BK378.out 0).trans rfl, (blk_cell BK378.out 1).trans rfl, (blk_cell BK378.out 2).trans rfl, (blk_cell BK378.out 3).trans rfl, (blk_cell BK378.out 4).trans rfl, (blk_cell BK378.out 5).trans rfl, (blk_cell BK378.out 6).trans rfl⟩ (fun hHeld => ?_)
     clear hK K
     refine norm_ (a' := ?_) ?_ ?_
     rotate_left
     ·show Act.put _ (some 31) _ = _
      exact zP
     refine pR 17 32 (dB 34 262143) HT_.out ?_
     refine pR 18 33 (dB 34 524287) HT_.out ?_
     refine pR 19 34 (dB 34 1048575) HT_.out ?_
     refine pR 20 35 (dB 34 2097151) HT_.out ?_
     refine pR 21 36 (dB 34 4194303) HT_.out ?_
     refine pR 22 37 (dB 34 8388607) HT_.out ?_
     refine pR 23 38 (dB 34 16777215) HT_.out ?_
     refine pR 26 41 (dB 34 83886079) HT_.out ?_
     refine pR 27 42 (dB 34 218103807) HT_.out ?_
     refine pR 28 43 (dB 34 486539263) HT_.out ?_
     refine tR 24 39 (dB 34 503316479) HT_.out HW_.out hHeld ?_
     refine tR 29 44 (dB 34 1040187391) HT_.out HW_.out hHeld ?_
     refine oR 25 40 (dB 34 1073741823) HT_.out (fun K hK => ?_)
     refine goes_ Tryz.func27 (by kernel_rfl) rfl #[.slice Ao45 t380.length co45, .slice A0_5 l0_5.length c0_5] (by rfl) rfl rfl zL ?_
     with_reducible refine (lockageref16_Split.calls k _ _ t380 _ _ l0_5 t389 _ ?side1 ?side2 ?side3 ?side4 A31.out).mono ?_
     (case side1 => exact zC ((Kd.R_reads' HO383.out).2.2))
     (case side2 => exact (Kd.R_reads' HO383.out).2.1)
     (case side3 => exact zC (Kd.C_below HR0_5.out HB.out))
     (case side4 => exact HC0_5.out)
     rintro e w46 ⟨rfl, hb⟩
     refine ⟨_, rfl, ?_⟩
     replace HO383 := aM (Kd.R_below (zO HO383.out) hb); replace HO388 := aM (Kd.R_below (zO HO388.out) hb); replace BK377 := aM (zX BK377.out hb); replace BK378 := aM (zX BK378.out hb); replace BK379 := aM (zX BK379.out hb); replace HB := aM (below_step zB hb)
     (try clear hb)
     (try clear hb2)
     (try clear hk)
     (try clear hi)
     refine hK.out _ _ ⟨(blk_cell BK379.out 0).trans rfl, (blk_cell BK379.out 1).trans rfl, (blk_cell BK379.out 2).trans rfl, (blk_cell BK379.out 3).trans rfl, (blk_cell BK379.out 4).trans rfl, (blk_cell BK379.out 5).trans rfl, (blk_cell BK377.out 0).trans rfl, (blk_cell BK377.out 1).trans rfl, (blk_cell BK377.out 2).trans rfl, (blk_cell BK377.out 3).trans rfl, (blk_cell BK377.out 4).trans rfl, (blk_cell BK377.out 5).trans rfl, (blk_cell BK377.out 6).trans rfl, (blk_cell BK378.out 0).trans rfl, (blk_cell BK378.out 1).trans rfl, (blk_cell BK378.out 2).trans rfl, (blk_cell BK378.out 3).trans rfl, (blk_cell BK378.out 4).trans rfl, (blk_cell BK378.out 5).trans rfl, (blk_cell BK378.out 6).trans rfl⟩ (fun hHeld => ?_)
     clear hK K
     refine norm_ (a' := ?_) ?_ ?_
     rotate_left
     ·show Act.put _ (some 40) _ = _
      exact zP
     refine oR 30 45 (dB 34 2147483647) HT_.out (fun K hK => ?_)
     refine goes_ Tryz.func27 (by kernel_rfl) rfl #[.slice Ao45 t380.length co45, .slice A1_5 l1_5.length c1_5] (by rfl) rfl rfl zL ?_
     with_reducible refine (lockageref16_Split.calls k _ _ t380 _ _ l1_5 t390 _ ?side1 ?side2 ?side3 ?side4 A32.out).mono ?_
     (case side1 => exact zC ((Kd.R_reads' HO383.out).2.2))
     (case side2 => exact (Kd.R_reads' HO383.out).2.1)
     (case side3 => exact zC (Kd.C_below HR1_5.out HB.out))
     (case side4 => exact HC1_5.out)
     rintro e w47 ⟨rfl, hb⟩
     refine ⟨_, rfl, ?_⟩
     replace HO383 := aM (Kd.R_below (zO HO383.out) hb); replace HO388 := aM (Kd.R_below (zO HO388.out) hb); replace BK377 := aM (zX BK377.out hb); replace BK378 := aM (zX BK378.out hb); replace BK379 := aM (zX BK379.out hb); replace HB := aM (below_step zB hb)
     (try clear hb)
     (try clear hb2)
     (try clear hk)
     (try clear hi)
     refine hK.out _ _ ⟨(blk_cell BK379.out 0).trans rfl, (blk_cell BK379.out 1).trans rfl, (blk_cell BK379.out 2).trans rfl, (blk_cell BK379.out 3).trans rfl, (blk_cell BK379.out 4).trans rfl, (blk_cell BK379.out 5).trans rfl, (blk_cell BK377.out 0).trans rfl, (blk_cell BK377.out 1).trans rfl, (blk_cell BK377.out 2).trans rfl, (blk_cell BK377.out 3).trans rfl, (blk_cell BK377.out 4).trans rfl, (blk_cell BK377.out 5).trans rfl, (blk_cell BK377.out 6).trans rfl, (blk_cell BK378.out 0).trans rfl, (blk_cell BK378.out 1).trans rfl, (blk_cell BK378.out 2).trans rfl, (blk_cell BK378.out 3).trans rfl, (blk_cell BK378.out 4).trans rfl, (blk_cell BK378.out 5).trans rfl, (blk_cell BK378.out 6).trans rfl⟩ (fun hHeld => ?_)
     clear hK K
     refine norm_ (a' := ?_) ?_ ?_
     rotate_left
     ·show Act.put _ (some 45) _ = _
      exact zP
     refine pR 31 46 (dB 34 4294967295) HT_.out ?_
     refine pR 32 47 (dB 34 8589934591) HT_.out ?_
     refine pR 33 6 (dB 34 17179869183) HT_.out ?_
     refine done_ (done_of HT_.out (by kernel_rfl)) ?_
     try go_wp2
     go_ret
     exact ⟨zE, zB⟩
    ·rw [if_neg c30] at H; obtain ⟨c30b0, c30b1⟩ := ze c30; (have c30b2 : ¬ (t386 = []) := fun h_ => c30 (by rw [h_]; rfl)); obtain rfl := Option.some.inj H
     go_enter Tryz.func28, Tryz.ntmps28
     try go_wp2_with (first | ((with_reducible refine gate_dst (N := 3) rfl ?_); (try (refine gate_guard (by rfl) ?_; dsimp only)); refine box_event ?hg (N := 3) ?hd (cs := #[.string a0_0, .string a0_1, .int .i64 a0_2, .string a0_3, .int .i64 a0_4, .slice A0_5 l0_5.length c0_5, .string a0_6]) (t := 26) ?hr ?_; (case hd => rfl); (case hg => rfl); (case hr => exact zG); intro gb377 hg w48 hbox hb; have BK377 := aM hbox; have GW377 := aM (by rw [hg]; exact (below_size zB) : w.heap.size ≤ gb377); replace HB := aM (below_step zB hb); have GE377 := GW377; clear hb hbox hg) | ((with_reducible refine gate_dst (N := 4) rfl ?_); (try (refine gate_guard (by rfl) ?_; dsimp only)); refine box_event ?hg (N := 4) ?hd (cs := #[.string a1_0, .string a1_1, .int .i64 a1_2, .string a1_3, .int .i64 a1_4, .slice A1_5 l1_5.length c1_5, .string a1_6]) (t := 26) ?hr ?_; (case hd => rfl); (case hg => rfl); (case hr => exact zG); intro gb378 hg w49 hbox hb; have BK378 := aM hbox; have GW378 := aM (by rw [hg]; exact (below_size zB) : w.heap.size ≤ gb378); replace HB := aM (below_step zB hb); have GE378 := GW378; have NB377_378 := aM (by rw [hg]; exact Nat.ne_of_lt (blk_lt (zK BK377.out)) : gb377 ≠ gb378); replace BK377 := aM (zX BK377.out hb); have NB378_377 := aM NB377_378.out.symm; clear hb hbox hg) | ((with_reducible refine gate_dst (N := 5) rfl ?_); (try (refine gate_guard (by rfl) ?_; dsimp only)); refine box_event ?hg (N := 5) ?hd (cs := #[.string a2_0, .string a2_1, .int .i64 a2_2, .string a2_3, .int .i64 a2_4, .slice A2_5 l2_5.length c2_5]) (t := 24) ?hr ?_; (case hd => rfl); (case hg => rfl); (case hr => exact zG); intro gb379 hg w50 hbox hb; have BK379 := aM hbox; have GW379 := aM (by rw [hg]; exact (below_size zB) : w.heap.size ≤ gb379); replace HB := aM (below_step zB hb); have GE379 := GW379; have NB377_379 := aM (by rw [hg]; exact Nat.ne_of_lt (blk_lt (zK BK377.out)) : gb377 ≠ gb379); replace BK377 := aM (zX BK377.out hb); have NB379_377 := aM NB377_379.out.symm; have NB378_379 := aM (by rw [hg]; exact Nat.ne_of_lt (blk_lt (zK BK378.out)) : gb378 ≠ gb379); replace BK378 := aM (zX BK378.out hb); have NB379_378 := aM NB378_379.out.symm; clear hb hbox hg; have hnb51 := NB379_377.out; have hnc51 := NB377_379.out; have hnb52 := NB379_378.out; have hnc52 := NB378_379.out; obtain ⟨_, _, _, _, _, _, _, _, _, _, _, _⟩ := cz6 BK379.out) | ((with_reducible refine gate_callee (f := 26) rfl ?_); refine goesL_ (some 12) rfl rfl Tryz.func26 (by kernel_rfl) rfl #[.slice A2_5 l2_5.length c2_5] rfl zL ?_; (with_reducible refine (lockageref16_Vary.calls k _ _ l2_5 t380 true _ ?side1 ?side2 A4.out).mono ?_); (case side1 => exact zC (Kd.C_below HR2_5.out HB.out)); (case side2 => exact HC2_5.out); rintro e w54 ⟨v382, rfl, ho0, hb⟩; refine ⟨_, rfl, ?_⟩; have HO383 := aM (Kd.R_lower ho0 (below_size zB)); replace BK377 := aM (zX BK377.out hb); replace BK378 := aM (zX BK378.out hb); replace BK379 := aM (zX BK379.out hb); replace HB := aM (below_step zB hb); clear hb ho0))
     replace HO383 := aM (rD HO383.out); replace BK377 := aM (bD BK377.out); replace BK378 := aM (bD BK378.out); replace BK379 := aM (bD BK379.out); replace HB := aM (lD HB.out)
     refine start_ (n := 34) (S := fun w' => w'.cell? ⟨gb379, 0, none⟩ = some (.string a2_0) ∧ w'.cell? ⟨gb379, 1, none⟩ = some (.string a2_1) ∧ w'.cell? ⟨gb379, 2, none⟩ = some (.int .i64 a2_2) ∧ w'.cell? ⟨gb379, 3, none⟩ = some (.string a2_3) ∧ w'.cell? ⟨gb379, 4, none⟩ = some (.int .i64 a2_4) ∧ w'.cell? ⟨gb379, 5, none⟩ = some (.slice A2_5 l2_5.length c2_5)) (ds := []) (dB 34 0) (by kernel_rfl) rfl rfl ⟨(blk_cell BK379.out 0).trans rfl, (blk_cell BK379.out 1).trans rfl, (blk_cell BK379.out 2).trans rfl, (blk_cell BK379.out 3).trans rfl, (blk_cell BK379.out 4).trans rfl, (blk_cell BK379.out 5).trans rfl⟩ (fun hHeld => ?_); refine with_tabW lockageref16_Fits.tab2 lockageref16_Fits.bits2 (fun HT_ HW_ => ?_)
     generalize w54.drew = w55 at HO383 BK377 BK378 BK379 HB hHeld ⊢
     refine pR 0 15 (dB 34 1) HT_.out ?_
     refine pR 1 16 (dB 34 3) HT_.out ?_
     refine pR 2 17 (dB 34 7) HT_.out ?_
     refine tR 3 18 (dB 34 15) HT_.out HW_.out hHeld ?_
     refine oR 4 19 (dB 34 31) HT_.out (fun K hK => ?_)
     refine goes_ Tryz.func35 (by kernel_rfl) rfl #[.slice A2_5 l2_5.length c2_5, .string (⟨#[112, 114, 105, 118, 97, 116, 101]⟩ : ByteArray)] (by rfl) rfl rfl zL ?_
     with_reducible refine (lockageref16_directs.calls k _ _ l2_5 (⟨#[112, 114, 105, 118, 97, 116, 101]⟩ : ByteArray) false _ ?side1 ?side2 A6.out).mono ?_
     (case side1 => exact zC (Kd.C_below HR2_5.out HB.out))
     (case side2 => exact HC2_5.out)
     rintro e w56 ⟨rfl, hb⟩
     refine ⟨_, rfl, ?_⟩
     replace HO383 := aM (Kd.R_below (zO HO383.out) hb); replace BK377 := aM (zX BK377.out hb); replace BK378 := aM (zX BK378.out hb); replace BK379 := aM (zX BK379.out hb); replace HB := aM (below_step zB hb)
     (try clear hb)
     (try clear hb2)
     (try clear hk)
     (try clear hi)
     refine hK.out _ _ ⟨(blk_cell BK379.out 0).trans rfl, (blk_cell BK379.out 1).trans rfl, (blk_cell BK379.out 2).trans rfl, (blk_cell BK379.out 3).trans rfl, (blk_cell BK379.out 4).trans rfl, (blk_cell BK379.out 5).trans rfl⟩ (fun hHeld => ?_)
     clear hK K
     refine norm_ (a' := ?_) ?_ ?_
     rotate_left
     ·show Act.put _ (some 19) _ = _
      exact zP
     refine pR 5 20 (dB 34 63) HT_.out ?_
     refine pR 6 21 (dB 34 127) HT_.out ?_
     refine pR 7 22 (dB 34 255) HT_.out ?_
     refine pR 8 23 (dB 34 511) HT_.out ?_
     refine tR 9 24 (dB 34 1023) HT_.out HW_.out hHeld ?_
     refine oR 10 25 (dB 34 2047) HT_.out (fun K hK => ?_)
     refine goes_ Tryz.func35 (by kernel_rfl) rfl #[.slice A2_5 l2_5.length c2_5, .string (⟨#[110, 111, 45, 115, 116, 111, 114, 101]⟩ : ByteArray)] (by rfl) rfl rfl zL ?_
     with_reducible refine (lockageref16_directs.calls k _ _ l2_5 (⟨#[110, 111, 45, 115, 116, 111, 114, 101]⟩ : ByteArray) false _ ?side1 ?side2 A17.out).mono ?_
     (case side1 => exact zC (Kd.C_below HR2_5.out HB.out))
     (case side2 => exact HC2_5.out)
     rintro e w57 ⟨rfl, hb⟩
     refine ⟨_, rfl, ?_⟩
     replace HO383 := aM (Kd.R_below (zO HO383.out) hb); replace BK377 := aM (zX BK377.out hb); replace BK378 := aM (zX BK378.out hb); replace BK379 := aM (zX BK379.out hb); replace HB := aM (below_step zB hb)
     (try clear hb)
     (try clear hb2)
     (try clear hk)
     (try clear hi)
     refine hK.out _ _ ⟨(blk_cell BK379.out 0).trans rfl, (blk_cell BK379.out 1).trans rfl, (blk_cell BK379.out 2).trans rfl, (blk_cell BK379.out 3).trans rfl, (blk_cell BK379.out 4).trans rfl, (blk_cell BK379.out 5).trans rfl⟩ (fun hHeld => ?_)
     clear hK K
     refine norm_ (a' := ?_) ?_ ?_
     rotate_left
     ·show Act.put _ (some 25) _ = _
      exact zP
     refine pR 11 26 (dB 34 4095) HT_.out ?_
     refine pR 12 27 (dB 34 8191) HT_.out ?_
     refine pR 13 28 (dB 34 16383) HT_.out ?_
     refine pR 14 29 (dB 34 32767) HT_.out ?_
     refine tR 15 30 (dB 34 65535) HT_.out HW_.out hHeld ?_
     refine oR 16 31 (dB 34 131071) HT_.out (fun K hK => ?_)
     refine goes_ Tryz.func21 (by kernel_rfl) rfl #[.slice A2_5 l2_5.length c2_5, .string (⟨#[115, 101, 116, 45, 99, 111, 111, 107, 105, 101]⟩ : ByteArray)] (by rfl) rfl rfl zL ?_
     with_reducible refine (lockageref05_Get.calls k _ _ l2_5 (⟨#[115, 101, 116, 45, 99, 111, 111, 107, 105, 101]⟩ : ByteArray) t386 _ ?side1 ?side2 A29.out).mono ?_
     (case side1 => exact zC (Kd.C_below HR2_5.out HB.out))
     (case side2 => exact HC2_5.out)
     rintro e w58 ⟨v387, rfl, ho0, hb⟩
     refine ⟨_, rfl, ?_⟩
     have HO388 := aM (Kd.R_lower (Kd.R_new' ho0 (Kd.R_lt (zO HO383.out))) (below_size zB)); replace HO383 := aM (Kd.R_elder' (zO HO383.out) (Kd.R_base ho0) hb); replace BK377 := aM (zX BK377.out hb); replace BK378 := aM (zX BK378.out hb); replace BK379 := aM (zX BK379.out hb); replace HB := aM (below_step zB hb)
     (try clear hb)
     (try clear hb2)
     (try clear hk)
     (try clear hi)
     (try clear ho0)
     obtain ⟨Ao59, co59, eo59⟩ := Kd.R_slice HO388.out
     (first | subst eo59 | (injection eo59 with f1_ f2_ f3_; have f4_ := f1_.symm; have f5_ := f3_.symm; clear f1_ f2_ f3_; subst f4_; subst f5_))
     refine hK.out _ _ ⟨(blk_cell BK379.out 0).trans rfl, (blk_cell BK379.out 1).trans rfl, (blk_cell BK379.out 2).trans rfl, (blk_cell BK379.out 3).trans rfl, (blk_cell BK379.out 4).trans rfl, (blk_cell BK379.out 5).trans rfl⟩ (fun hHeld => ?_)
     clear hK K
     refine norm_ (a' := ?_) ?_ ?_
     rotate_left
     ·show Act.put _ (some 31) _ = _
      exact zP
     refine pR 17 32 (dB 34 262143) HT_.out ?_
     refine pR 18 33 (dB 34 524287) HT_.out ?_
     refine pR 19 34 (dB 34 1048575) HT_.out ?_
     refine pR 20 35 (dB 34 2097151) HT_.out ?_
     refine pure_ (i := 21) (N := some 36) (v := undef) (a' := ?_) (dB 34 4194303) rfl rfl (zT HT_.out) (fun _ _ _ h => h) (Or.inr ⟨by rfl, rfl⟩) ?_ ?_
     rotate_left
     ·exact zP
     refine pure_ (i := 22) (N := some 37) (v := undef) (a' := ?_) (dB 34 8388607) rfl rfl (zT HT_.out) (fun _ _ _ h => h) (Or.inr ⟨by rfl, rfl⟩) ?_ ?_
     rotate_left
     ·exact zP
     refine pure_ (i := 23) (N := some 38) (v := undef) (a' := ?_) (dB 34 16777215) rfl rfl (zT HT_.out) (fun _ _ _ h => h) (Or.inr ⟨by rfl, rfl⟩) ?_ ?_
     rotate_left
     ·exact zP
     refine pure_ (i := 24) (N := some 39) (v := undef) (a' := ?_) (dB 34 33554431) rfl rfl (zT HT_.out) (fun _ _ _ h => h) (Or.inr ⟨by rfl, rfl⟩) ?_ ?_
     rotate_left
     ·exact zP
     refine pure_ (i := 25) (N := some 40) (v := undef) (a' := ?_) (dB 34 67108863) rfl rfl (zT HT_.out) (fun _ _ _ h => h) (Or.inr ⟨by rfl, rfl⟩) ?_ ?_
     rotate_left
     ·exact zP
     refine pure_ (i := 26) (N := some 41) (v := undef) (a' := ?_) (dB 34 134217727) rfl rfl (zT HT_.out) (fun _ _ _ h => h) (Or.inr ⟨by rfl, rfl⟩) ?_ ?_
     rotate_left
     ·exact zP
     refine pure_ (i := 27) (N := some 42) (v := undef) (a' := ?_) (dB 34 268435455) rfl rfl (zT HT_.out) (fun _ _ _ h => h) (Or.inr ⟨by rfl, rfl⟩) ?_ ?_
     rotate_left
     ·exact zP
     refine pure_ (i := 28) (N := some 43) (v := undef) (a' := ?_) (dB 34 536870911) rfl rfl (zT HT_.out) (fun _ _ _ h => h) (Or.inr ⟨by rfl, rfl⟩) ?_ ?_
     rotate_left
     ·exact zP
     refine pure_ (i := 29) (N := some 44) (v := undef) (a' := ?_) (dB 34 1073741823) rfl rfl (zT HT_.out) (fun _ _ _ h => h) (Or.inr ⟨by rfl, rfl⟩) ?_ ?_
     rotate_left
     ·exact zP
     refine pure_ (i := 30) (N := some 45) (v := undef) (a' := ?_) (dB 34 2147483647) rfl rfl (zT HT_.out) (fun _ _ _ h => h) (Or.inr ⟨by rfl, rfl⟩) ?_ ?_
     rotate_left
     ·exact zP
     refine pure_ (i := 31) (N := some 46) (v := undef) (a' := ?_) (dB 34 4294967295) rfl rfl (zT HT_.out) (fun _ _ _ h => h) (Or.inr ⟨by rfl, rfl⟩) ?_ ?_
     rotate_left
     ·exact zP
     refine pR 32 47 (dB 34 8589934591) HT_.out ?_
     refine pR 33 6 (dB 34 17179869183) HT_.out ?_
     refine done_ (done_of HT_.out (by kernel_rfl)) ?_
     try go_wp2
     go_ret
     exact ⟨zE, zB⟩
 ·replace c5 := Bool.eq_false_iff.mpr c5; subst c5; rw [if_neg (show ¬ (false = true) by decide)] at H; obtain rfl := Option.some.inj H
  go_enter Tryz.func28, Tryz.ntmps28
  try go_wp2_with (first | ((with_reducible refine gate_dst (N := 3) rfl ?_); (try (refine gate_guard (by rfl) ?_; dsimp only)); refine box_event ?hg (N := 3) ?hd (cs := #[.string a0_0, .string a0_1, .int .i64 a0_2, .string a0_3, .int .i64 a0_4, .slice A0_5 l0_5.length c0_5, .string a0_6]) (t := 26) ?hr ?_; (case hd => rfl); (case hg => rfl); (case hr => exact zG); intro gb377 hg w60 hbox hb; have BK377 := aM hbox; have GW377 := aM (by rw [hg]; exact (below_size zB) : w.heap.size ≤ gb377); replace HB := aM (below_step zB hb); have GE377 := GW377; clear hb hbox hg) | ((with_reducible refine gate_dst (N := 4) rfl ?_); (try (refine gate_guard (by rfl) ?_; dsimp only)); refine box_event ?hg (N := 4) ?hd (cs := #[.string a1_0, .string a1_1, .int .i64 a1_2, .string a1_3, .int .i64 a1_4, .slice A1_5 l1_5.length c1_5, .string a1_6]) (t := 26) ?hr ?_; (case hd => rfl); (case hg => rfl); (case hr => exact zG); intro gb378 hg w61 hbox hb; have BK378 := aM hbox; have GW378 := aM (by rw [hg]; exact (below_size zB) : w.heap.size ≤ gb378); replace HB := aM (below_step zB hb); have GE378 := GW378; have NB377_378 := aM (by rw [hg]; exact Nat.ne_of_lt (blk_lt (zK BK377.out)) : gb377 ≠ gb378); replace BK377 := aM (zX BK377.out hb); have NB378_377 := aM NB377_378.out.symm; clear hb hbox hg) | ((with_reducible refine gate_dst (N := 5) rfl ?_); (try (refine gate_guard (by rfl) ?_; dsimp only)); refine box_event ?hg (N := 5) ?hd (cs := #[.string a2_0, .string a2_1, .int .i64 a2_2, .string a2_3, .int .i64 a2_4, .slice A2_5 l2_5.length c2_5]) (t := 24) ?hr ?_; (case hd => rfl); (case hg => rfl); (case hr => exact zG); intro gb379 hg w62 hbox hb; have BK379 := aM hbox; have GW379 := aM (by rw [hg]; exact (below_size zB) : w.heap.size ≤ gb379); replace HB := aM (below_step zB hb); have GE379 := GW379; have NB377_379 := aM (by rw [hg]; exact Nat.ne_of_lt (blk_lt (zK BK377.out)) : gb377 ≠ gb379); replace BK377 := aM (zX BK377.out hb); have NB379_377 := aM NB377_379.out.symm; have NB378_379 := aM (by rw [hg]; exact Nat.ne_of_lt (blk_lt (zK BK378.out)) : gb378 ≠ gb379); replace BK378 := aM (zX BK378.out hb); have NB379_378 := aM NB378_379.out.symm; clear hb hbox hg; have hnb63 := NB379_377.out; have hnc63 := NB377_379.out; have hnb64 := NB379_378.out; have hnc64 := NB378_379.out; obtain ⟨_, _, _, _, _, _, _, _, _, _, _, _⟩ := cz6 BK379.out) | ((with_reducible refine gate_callee (f := 26) rfl ?_); refine goesL_ (some 12) rfl rfl Tryz.func26 (by kernel_rfl) rfl #[.slice A2_5 l2_5.length c2_5] rfl zL ?_; (with_reducible refine (lockageref16_Vary.calls k _ _ l2_5 t380 false _ ?side1 ?side2 A4.out).mono ?_); (case side1 => exact zC (Kd.C_below HR2_5.out HB.out)); (case side2 => exact HC2_5.out); rintro e w66 ⟨v382, rfl, ho0, hb⟩; refine ⟨_, rfl, ?_⟩; have HO383 := aM (Kd.R_lower ho0 (below_size zB)); replace BK377 := aM (zX BK377.out hb); replace BK378 := aM (zX BK378.out hb); replace BK379 := aM (zX BK379.out hb); replace HB := aM (below_step zB hb); clear hb ho0))
  replace HO383 := aM (rD HO383.out); replace BK377 := aM (bD BK377.out); replace BK378 := aM (bD BK378.out); replace BK379 := aM (bD BK379.out); replace HB := aM (lD HB.out)
  refine start_ (n := 34) (S := fun w' => True) (ds := []) (dB 34 0) (by kernel_rfl) rfl rfl trivial (fun hHeld => ?_); refine with_tabW lockageref16_Fits.tab2 lockageref16_Fits.bits2 (fun HT_ HW_ => ?_)
  generalize w66.drew = w67 at HO383 BK377 BK378 BK379 HB hHeld ⊢
  refine pR 0 15 (dB 34 1) HT_.out ?_
  refine pR 1 16 (dB 34 3) HT_.out ?_
  refine pure_ (i := 2) (N := some 17) (v := undef) (a' := ?_) (dB 34 7) rfl rfl (zT HT_.out) (fun _ _ _ h => h) (Or.inr ⟨by rfl, rfl⟩) ?_ ?_
  rotate_left
  ·exact zP
  refine pure_ (i := 3) (N := some 18) (v := undef) (a' := ?_) (dB 34 15) rfl rfl (zT HT_.out) (fun _ _ _ h => h) (Or.inr ⟨by rfl, rfl⟩) ?_ ?_
  rotate_left
  ·exact zP
  refine pure_ (i := 4) (N := some 19) (v := undef) (a' := ?_) (dB 34 31) rfl rfl (zT HT_.out) (fun _ _ _ h => h) (Or.inr ⟨by rfl, rfl⟩) ?_ ?_
  rotate_left
  ·exact zP
  refine pure_ (i := 5) (N := some 20) (v := undef) (a' := ?_) (dB 34 63) rfl rfl (zT HT_.out) (fun _ _ _ h => h) (Or.inr ⟨by rfl, rfl⟩) ?_ ?_
  rotate_left
  ·exact zP
  refine pR 6 21 (dB 34 127) HT_.out ?_
  refine pR 7 22 (dB 34 255) HT_.out ?_
  refine pure_ (i := 8) (N := some 23) (v := undef) (a' := ?_) (dB 34 511) rfl rfl (zT HT_.out) (fun _ _ _ h => h) (Or.inr ⟨by rfl, rfl⟩) ?_ ?_
  rotate_left
  ·exact zP
  refine pure_ (i := 9) (N := some 24) (v := undef) (a' := ?_) (dB 34 1023) rfl rfl (zT HT_.out) (fun _ _ _ h => h) (Or.inr ⟨by rfl, rfl⟩) ?_ ?_
  rotate_left
  ·exact zP
  refine pure_ (i := 10) (N := some 25) (v := undef) (a' := ?_) (dB 34 2047) rfl rfl (zT HT_.out) (fun _ _ _ h => h) (Or.inr ⟨by rfl, rfl⟩) ?_ ?_
  rotate_left
  ·exact zP
  refine pure_ (i := 11) (N := some 26) (v := undef) (a' := ?_) (dB 34 4095) rfl rfl (zT HT_.out) (fun _ _ _ h => h) (Or.inr ⟨by rfl, rfl⟩) ?_ ?_
  rotate_left
  ·exact zP
  refine pR 12 27 (dB 34 8191) HT_.out ?_
  refine pR 13 28 (dB 34 16383) HT_.out ?_
  refine pure_ (i := 14) (N := some 29) (v := undef) (a' := ?_) (dB 34 32767) rfl rfl (zT HT_.out) (fun _ _ _ h => h) (Or.inr ⟨by rfl, rfl⟩) ?_ ?_
  rotate_left
  ·exact zP
  refine pure_ (i := 15) (N := some 30) (v := undef) (a' := ?_) (dB 34 65535) rfl rfl (zT HT_.out) (fun _ _ _ h => h) (Or.inr ⟨by rfl, rfl⟩) ?_ ?_
  rotate_left
  ·exact zP
  refine pure_ (i := 16) (N := some 31) (v := undef) (a' := ?_) (dB 34 131071) rfl rfl (zT HT_.out) (fun _ _ _ h => h) (Or.inr ⟨by rfl, rfl⟩) ?_ ?_
  rotate_left
  ·exact zP
  refine pure_ (i := 17) (N := some 32) (v := undef) (a' := ?_) (dB 34 262143) rfl rfl (zT HT_.out) (fun _ _ _ h => h) (Or.inr ⟨by rfl, rfl⟩) ?_ ?_
  rotate_left
  ·exact zP
  refine pure_ (i := 18) (N := some 33) (v := undef) (a' := ?_) (dB 34 524287) rfl rfl (zT HT_.out) (fun _ _ _ h => h) (Or.inr ⟨by rfl, rfl⟩) ?_ ?_
  rotate_left
  ·exact zP
  refine pR 19 34 (dB 34 1048575) HT_.out ?_
  refine pR 20 35 (dB 34 2097151) HT_.out ?_
  refine pure_ (i := 21) (N := some 36) (v := undef) (a' := ?_) (dB 34 4194303) rfl rfl (zT HT_.out) (fun _ _ _ h => h) (Or.inr ⟨by rfl, rfl⟩) ?_ ?_
  rotate_left
  ·exact zP
  refine pure_ (i := 22) (N := some 37) (v := undef) (a' := ?_) (dB 34 8388607) rfl rfl (zT HT_.out) (fun _ _ _ h => h) (Or.inr ⟨by rfl, rfl⟩) ?_ ?_
  rotate_left
  ·exact zP
  refine pure_ (i := 23) (N := some 38) (v := undef) (a' := ?_) (dB 34 16777215) rfl rfl (zT HT_.out) (fun _ _ _ h => h) (Or.inr ⟨by rfl, rfl⟩) ?_ ?_
  rotate_left
  ·exact zP
  refine pure_ (i := 24) (N := some 39) (v := undef) (a' := ?_) (dB 34 33554431) rfl rfl (zT HT_.out) (fun _ _ _ h => h) (Or.inr ⟨by rfl, rfl⟩) ?_ ?_
  rotate_left
  ·exact zP
  refine pure_ (i := 25) (N := some 40) (v := undef) (a' := ?_) (dB 34 67108863) rfl rfl (zT HT_.out) (fun _ _ _ h => h) (Or.inr ⟨by rfl, rfl⟩) ?_ ?_
  rotate_left
  ·exact zP
  refine pure_ (i := 26) (N := some 41) (v := undef) (a' := ?_) (dB 34 134217727) rfl rfl (zT HT_.out) (fun _ _ _ h => h) (Or.inr ⟨by rfl, rfl⟩) ?_ ?_
  rotate_left
  ·exact zP
  refine pure_ (i := 27) (N := some 42) (v := undef) (a' := ?_) (dB 34 268435455) rfl rfl (zT HT_.out) (fun _ _ _ h => h) (Or.inr ⟨by rfl, rfl⟩) ?_ ?_
  rotate_left
  ·exact zP
  refine pure_ (i := 28) (N := some 43) (v := undef) (a' := ?_) (dB 34 536870911) rfl rfl (zT HT_.out) (fun _ _ _ h => h) (Or.inr ⟨by rfl, rfl⟩) ?_ ?_
  rotate_left
  ·exact zP
  refine pure_ (i := 29) (N := some 44) (v := undef) (a' := ?_) (dB 34 1073741823) rfl rfl (zT HT_.out) (fun _ _ _ h => h) (Or.inr ⟨by rfl, rfl⟩) ?_ ?_
  rotate_left
  ·exact zP
  refine pure_ (i := 30) (N := some 45) (v := undef) (a' := ?_) (dB 34 2147483647) rfl rfl (zT HT_.out) (fun _ _ _ h => h) (Or.inr ⟨by rfl, rfl⟩) ?_ ?_
  rotate_left
  ·exact zP
  refine pure_ (i := 31) (N := some 46) (v := undef) (a' := ?_) (dB 34 4294967295) rfl rfl (zT HT_.out) (fun _ _ _ h => h) (Or.inr ⟨by rfl, rfl⟩) ?_ ?_
  rotate_left
  ·exact zP
  refine pR 32 47 (dB 34 8589934591) HT_.out ?_
  refine pR 33 6 (dB 34 17179869183) HT_.out ?_
  refine done_ (done_of HT_.out (by kernel_rfl)) ?_
  try go_wp2
  go_ret
  exact ⟨zE, zB⟩

end Go.Proofs.YthmallhjbhphgaaGreatDoor.P
