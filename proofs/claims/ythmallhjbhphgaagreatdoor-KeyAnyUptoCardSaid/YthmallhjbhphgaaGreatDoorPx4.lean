/- Printed by a program of the session out of the translation: plain Lean functions, each with the contract that the Go function computes it. -/
import Derived.Test.YthmallhjbhphgaaGreatDoorHZm
import Derived.Test.YthmallhjbhphgaaGreatDoorHZ
import Derived.Test.YthmallhjbhphgaaGreatDoorPx0
import Derived.Test.YthmallhjbhphgaaGreatDoorPx1
import Derived.Test.YthmallhjbhphgaaGreatDoorHZC
namespace Go.Proofs.YthmallhjbhphgaaGreatDoor.P
open Go.RowKit Go.Proofs.YthmallhjbhphgaaGreatDoorW.PrintWords Go.Proofs.YthmallhjbhphgaaGreatDoorW.PrintLast Go.Proofs.YthmallhjbhphgaaGreatDoorW.PrintMore
attribute [local go_sem] max2_int min2_int max_two min_two max_three min_three max_four min_four   -- for this text's walks alone
set_option linter.unusedVariables false
set_option linter.unusedSimpArgs false

def stringslite_HasPrefix.f (a0 : ByteArray) (a1 : ByteArray) : Option (Bool) := if (a0.size : Int) ≥ (a1.size : Int) then (if 0 ≤ (a1.size : Int) then (if (a1.size : Int) ≤ (a0.size : Int) then (some ((a0.extract 0 ((a1.size : Int) : Int).toNat).toList == a1.toList)) else (none)) else (none)) else (some false)
set_option maxHeartbeats 8000000 in
set_option maxRecDepth 100000 in
theorem stringslite_HasPrefix.calls (a0 : ByteArray) (a1 : ByteArray) (r : Bool) (w : World) (h : stringslite_HasPrefix.f a0 a1 = some r) :
  Calls Tryz.prog 77 #[.string a0, .string a1] w fun e w' => e = .returned (.bool r) ∧ Drawn0 w w' := by
 have H := h; unfold stringslite_HasPrefix.f at H; clear h; by_cases c3 : (a0.size : Int) ≥ (a1.size : Int)
 ·rw [if_pos c3] at H; have c3b0 := decide_eq_true c3; have c3b1 : decide (a1.size ≤ a0.size) = true := decide_eq_true (Int.ofNat_le.mp c3); clear c3; by_cases c4 : 0 ≤ (a1.size : Int)
  ·rw [if_pos c4] at H; have c4b0 := eq_true c4; have c4b1 := decide_eq_true c4; clear c4; by_cases c5 : (a1.size : Int) ≤ (a0.size : Int)
   ·rw [if_pos c5] at H; have c5b0 := eq_true c5; have c5b1 := decide_eq_true c5; clear c5; obtain rfl := Option.some.inj H
    go_enter Tryz.func77, Tryz.ntmps77
    go_wp2
    go_ret
    exact ⟨zR, zD⟩
   ·exact zf c5 H
  ·exact zf c4 H
 ·rw [if_neg c3] at H; have c3b0 := decide_eq_false c3; have c3b1 : decide (a1.size ≤ a0.size) = false := decide_eq_false (fun h => c3 (Int.ofNat_le.mpr h)); clear c3; obtain rfl := Option.some.inj H
  go_enter Tryz.func77, Tryz.ntmps77
  go_wp2
  go_ret
  exact ⟨zR, zD⟩

def strings_HasPrefix.f (a0 : ByteArray) (a1 : ByteArray) : Option (Bool) := (stringslite_HasPrefix.f a0 a1).bind fun t178 => (some t178)
set_option maxHeartbeats 8000000 in
set_option maxRecDepth 100000 in
theorem strings_HasPrefix.calls (a0 : ByteArray) (a1 : ByteArray) (r : Bool) (w : World) (h : strings_HasPrefix.f a0 a1 = some r) :
  Calls Tryz.prog 58 #[.string a0, .string a1] w fun e w' => e = .returned (.bool r) ∧ Drawn0 w w' := by
 have H : ((stringslite_HasPrefix.f a0 a1).bind fun t178 => (some t178)) = some r := h; clear h; replace H := Option.bind_eq_some_iff.mp H; obtain ⟨t178, A30, H⟩ := H; replace H : (some t178) = some r := H; have A3 := aM A30; clear A30; obtain rfl := Option.some.inj H
 go_enter Tryz.func58, Tryz.ntmps58
 go_wp2_with (first | ((with_reducible refine gate_callee (f := 77) rfl ?_); refine goesL_ (some 7) rfl rfl Tryz.func77 (by kernel_rfl) rfl #[.string a0, .string a1] rfl zL ?_; (with_reducible refine (stringslite_HasPrefix.calls a0 a1 t178 _ A3.out).mono ?_); rintro e w' ⟨rfl, ⟨nd, rfl⟩⟩; refine ⟨_, rfl, ?_⟩))
 go_ret
 exact ⟨zR, zD⟩

def strings_HasPrefix.Pure : Prop := ∀ (a0 : ByteArray) (a1 : ByteArray), a0.size ≤ 140737488351232 → a1.size ≤ 140737488351232 → strings_HasPrefix.f a0 a1 = some true
theorem strings_HasPrefix.walk (P : strings_HasPrefix.Pure) (a0 : ByteArray) (a1 : ByteArray) (w : World) (w0 : a0.size ≤ 140737488351232) (w1 : a1.size ≤ 140737488351232) :
  Calls Tryz.prog 58 #[.string a0, .string a1] w fun e w' => e = .returned (.bool true) ∧ Below w.heap.size w w' := by
 have h := P a0 a1 w0 w1
 refine (strings_HasPrefix.calls a0 a1 true w h).mono ?_
 rintro e w' ⟨rfl, hd⟩
 exact ⟨rfl, hd.below⟩

def key_Fits.j0 : Nat → List ByteArray → Bool → ByteArray → ByteArray → Int → ByteArray → Int → List (S37) → ByteArray → ByteArray → ByteArray → Int → ByteArray → Int → List (S37) → ByteArray → Option (Bool)
 | 0, _, _, _, _, _, _, _, _, _, _, _, _, _, _, _, _ => none
 | k + 1, x7, x29, x180000, x180001, x180002, x180003, x180004, x180005, x180006, x181000, x181001, x181002, x181003, x181004, x181005, x181006 => if x29 = true then (some false) else ((key_Split.f k x7 x180005).bind fun t193 => ((key_Split.f k x7 x181005).bind fun t194 => (some (t193.toList == t194.toList))))
def key_Fits.f (k : Nat) (a0_0 : ByteArray) (a0_1 : ByteArray) (a0_2 : Int) (a0_3 : ByteArray) (a0_4 : Int) (l0_5 : List (S37)) (a0_6 : ByteArray) (a1_0 : ByteArray) (a1_1 : ByteArray) (a1_2 : Int) (a1_3 : ByteArray) (a1_4 : Int) (l1_5 : List (S37)) (a1_6 : ByteArray) (a2_0 : ByteArray) (a2_1 : ByteArray) (a2_2 : Int) (a2_3 : ByteArray) (a2_4 : Int) (l2_5 : List (S37)) : Option (Bool) := (key_Vary.f k l2_5).bind fun bt182 => (if bt182.2 = true then ((key_directs.f k l2_5 (([(⟨#[112, 114, 105, 118, 97, 116, 101]⟩ : ByteArray), (⟨#[110, 111, 45, 115, 116, 111, 114, 101]⟩ : ByteArray)] : List ByteArray))).bind fun t189 => (if t189 = true then (key_Fits.j0 k bt182.1 true a0_0 a0_1 a0_2 a0_3 a0_4 l0_5 a0_6 a1_0 a1_1 a1_2 a1_3 a1_4 l1_5 a1_6) else ((field_Get.f k l2_5 (⟨#[83, 101, 116, 45, 67, 111, 111, 107, 105, 101]⟩ : ByteArray)).bind fun t190 => (key_Fits.j0 k bt182.1 (decide ((t190.length : Int) > 0)) a0_0 a0_1 a0_2 a0_3 a0_4 l0_5 a0_6 a1_0 a1_1 a1_2 a1_3 a1_4 l1_5 a1_6)))) else (key_Fits.j0 k bt182.1 true a0_0 a0_1 a0_2 a0_3 a0_4 l0_5 a0_6 a1_0 a1_1 a1_2 a1_3 a1_4 l1_5 a1_6))
theorem key_Fits.mono_l : ∀ k, (∀ y0 y1 y2 y3 y4 y5 y6 y7 y8 y9 y10 y11 y12 y13 y14 y15, LeO (key_Fits.j0 k y0 y1 y2 y3 y4 y5 y6 y7 y8 y9 y10 y11 y12 y13 y14 y15) (key_Fits.j0 (k + 1) y0 y1 y2 y3 y4 y5 y6 y7 y8 y9 y10 y11 y12 y13 y14 y15))
 | 0 => fun _ _ _ _ _ _ _ _ _ _ _ _ _ _ _ _ r h => by simp [key_Fits.j0] at h
 | k + 1 => by
  have ih0 := key_Fits.mono_l k
  ·intro y0 y1 y2 y3 y4 y5 y6 y7 y8 y9 y10 y11 y12 y13 y14 y15
   unfold key_Fits.j0; have m0 := @field_Get.mono; have m1 := @key_Split.mono; have m2 := @key_Vary.mono; have m3 := @key_directs.mono; exact zM
theorem key_Fits.mono : ∀ a0 a1 a2 a3 a4 a5 a6 a7 a8 a9 a10 a11 a12 a13 a14 a15 a16 a17 a18 a19 k, LeO (key_Fits.f k a0 a1 a2 a3 a4 a5 a6 a7 a8 a9 a10 a11 a12 a13 a14 a15 a16 a17 a18 a19) (key_Fits.f (k + 1) a0 a1 a2 a3 a4 a5 a6 a7 a8 a9 a10 a11 a12 a13 a14 a15 a16 a17 a18 a19) := by
 intro a0 a1 a2 a3 a4 a5 a6 a7 a8 a9 a10 a11 a12 a13 a14 a15 a16 a17 a18 a19 k
 have ih0 := key_Fits.mono_l k
 unfold key_Fits.f; have m0 := @field_Get.mono; have m1 := @key_Split.mono; have m2 := @key_Vary.mono; have m3 := @key_directs.mono; exact zM
def key_Fits.T4 : Bool × List (List Nat × List Nat) := (true, [([], []), ([], []), ([1], [1]), ([2], [2]), ([0, 3], [0, 3]), ([], []), ([], []), ([6], [6]), ([7], [7]), ([5, 8, 4], [5, 8]), ([4, 9], [4, 9]), ([10, 9, 0, 1, 2, 3, 4, 5, 6, 7, 8, 9, 10], [10])])
def key_Fits.B4 : List Nat := [0, 0, 2, 6, 15, 0, 0, 64, 192, 511, 1023, 2047]
theorem key_Fits.tab4 : rtab .any (opsOf Tryz.f17 4) = key_Fits.T4 := by kernel_rfl
theorem key_Fits.bits4 : waitsOk key_Fits.T4.2 key_Fits.B4 = true := by kernel_rfl
set_option maxHeartbeats 8000000 in
set_option maxRecDepth 100000 in
theorem key_Fits.calls (k : Nat) (a0_0 : ByteArray) (a0_1 : ByteArray) (a0_2 : Int) (a0_3 : ByteArray) (a0_4 : Int) (A0_5 : Option Addr) (c0_5 : Nat) (l0_5 : List (S37)) (a0_6 : ByteArray) (a1_0 : ByteArray) (a1_1 : ByteArray) (a1_2 : Int) (a1_3 : ByteArray) (a1_4 : Int) (A1_5 : Option Addr) (c1_5 : Nat) (l1_5 : List (S37)) (a1_6 : ByteArray) (a2_0 : ByteArray) (a2_1 : ByteArray) (a2_2 : Int) (a2_3 : ByteArray) (a2_4 : Int) (A2_5 : Option Addr) (c2_5 : Nat) (l2_5 : List (S37)) (r : Bool) (w : World) (hr0_5 : Kd.C k37 w A0_5 l0_5.length l0_5) (hc0_5 : l0_5.length ≤ c0_5) (hr1_5 : Kd.C k37 w A1_5 l1_5.length l1_5) (hc1_5 : l1_5.length ≤ c1_5) (hr2_5 : Kd.C k37 w A2_5 l2_5.length l2_5) (hc2_5 : l2_5.length ≤ c2_5) (h : key_Fits.f k a0_0 a0_1 a0_2 a0_3 a0_4 l0_5 a0_6 a1_0 a1_1 a1_2 a1_3 a1_4 l1_5 a1_6 a2_0 a2_1 a2_2 a2_3 a2_4 l2_5 = some r) :
  Calls Tryz.prog 17 #[.agg #[.string a0_0, .string a0_1, .int .i64 a0_2, .string a0_3, .int .i64 a0_4, .slice A0_5 l0_5.length c0_5, .string a0_6], .agg #[.string a1_0, .string a1_1, .int .i64 a1_2, .string a1_3, .int .i64 a1_4, .slice A1_5 l1_5.length c1_5, .string a1_6], .agg #[.string a2_0, .string a2_1, .int .i64 a2_2, .string a2_3, .int .i64 a2_4, .slice A2_5 l2_5.length c2_5]] w fun e w' => e = .returned (.bool r) ∧ Below w.heap.size w w' := by
 have hu26 := Tryz.underlying26; have hu24 := Tryz.underlying24; have HR0_5 := aM hr0_5; have HC0_5 := aM hc0_5; clear hr0_5 hc0_5; have HR1_5 := aM hr1_5; have HC1_5 := aM hc1_5; clear hr1_5 hc1_5; have HR2_5 := aM hr2_5; have HC2_5 := aM hc2_5; clear hr2_5 hc2_5; have HB := aM (Below.refl w.heap.size w); have H := h; unfold key_Fits.f at H; clear h; obtain ⟨⟨t182, t183⟩, A4, H⟩ := zc H; (try dsimp only at H); have HC5 := aM H; clear H
 go_enter Tryz.func17, Tryz.ntmps17
 go_upto_region 2 with (first | ((with_reducible refine gate_dst (N := 3) rfl ?_); (try (refine gate_guard (by rfl) ?_; dsimp only)); refine box_event ?hg (N := 3) ?hd (cs := #[.string a0_0, .string a0_1, .int .i64 a0_2, .string a0_3, .int .i64 a0_4, .slice A0_5 l0_5.length c0_5, .string a0_6]) (t := 26) ?hr ?_; (case hd => rfl); (case hg => rfl); (case hr => exact zG); intro gb179 hg w6 hbox hb; have BK179 := aM hbox; have GW179 := aM (by rw [hg]; exact (below_size zB) : w.heap.size ≤ gb179); replace HB := aM (below_step zB hb); have GE179 := GW179; clear hb hbox hg) | ((with_reducible refine gate_dst (N := 4) rfl ?_); (try (refine gate_guard (by rfl) ?_; dsimp only)); refine box_event ?hg (N := 4) ?hd (cs := #[.string a1_0, .string a1_1, .int .i64 a1_2, .string a1_3, .int .i64 a1_4, .slice A1_5 l1_5.length c1_5, .string a1_6]) (t := 26) ?hr ?_; (case hd => rfl); (case hg => rfl); (case hr => exact zG); intro gb180 hg w7 hbox hb; have BK180 := aM hbox; have GW180 := aM (by rw [hg]; exact (below_size zB) : w.heap.size ≤ gb180); replace HB := aM (below_step zB hb); have GE180 := GW180; have NB179_180 := aM (by rw [hg]; exact Nat.ne_of_lt (blk_lt (zK BK179.out)) : gb179 ≠ gb180); replace BK179 := aM (zX BK179.out hb); have NB180_179 := aM NB179_180.out.symm; clear hb hbox hg) | ((with_reducible refine gate_dst (N := 5) rfl ?_); (try (refine gate_guard (by rfl) ?_; dsimp only)); refine box_event ?hg (N := 5) ?hd (cs := #[.string a2_0, .string a2_1, .int .i64 a2_2, .string a2_3, .int .i64 a2_4, .slice A2_5 l2_5.length c2_5]) (t := 24) ?hr ?_; (case hd => rfl); (case hg => rfl); (case hr => exact zG); intro gb181 hg w8 hbox hb; have BK181 := aM hbox; have GW181 := aM (by rw [hg]; exact (below_size zB) : w.heap.size ≤ gb181); replace HB := aM (below_step zB hb); have GE181 := GW181; have NB179_181 := aM (by rw [hg]; exact Nat.ne_of_lt (blk_lt (zK BK179.out)) : gb179 ≠ gb181); replace BK179 := aM (zX BK179.out hb); have NB181_179 := aM NB179_181.out.symm; have NB180_181 := aM (by rw [hg]; exact Nat.ne_of_lt (blk_lt (zK BK180.out)) : gb180 ≠ gb181); replace BK180 := aM (zX BK180.out hb); have NB181_180 := aM NB180_181.out.symm; clear hb hbox hg; have hnb9 := NB181_179.out; have hnc9 := NB179_181.out; have hnb10 := NB181_180.out; have hnc10 := NB180_181.out; obtain ⟨_, _, _, _, _, _, _, _, _, _, _, _⟩ := cz6 BK181.out) | ((with_reducible refine gate_callee (f := 18) rfl ?_); refine goesL_ (some 12) rfl rfl Tryz.func18 (by kernel_rfl) rfl #[.slice A2_5 l2_5.length c2_5] rfl zL ?_; (with_reducible refine (key_Vary.calls k _ _ l2_5 t182 t183 _ ?side1 ?side2 A4.out).mono ?_); (case side1 => exact zC (Kd.C_below HR2_5.out HB.out)); (case side2 => exact HC2_5.out); rintro e w12 ⟨v184, rfl, ho0, hb⟩; refine ⟨_, rfl, ?_⟩; have HO185 := aM (Kd.R_lower ho0 (below_size zB)); replace BK179 := aM (zX BK179.out hb); replace BK180 := aM (zX BK180.out hb); replace BK181 := aM (zX BK181.out hb); replace HB := aM (below_step zB hb); clear hb ho0))
 (try simp only [Act.put, List.setIfInBounds_toArray, List.set_cons_zero, List.set_cons_succ])
 go_cut [29] (fun v29 wc => ∃ (kq : Nat) (x29_4 : Bool), v29 = .bool x29_4 ∧ Aside0 (key_Fits.j0 kq t182 x29_4 a0_0 a0_1 a0_2 a0_3 a0_4 l0_5 a0_6 a1_0 a1_1 a1_2 a1_3 a1_4 l1_5 a1_6 = some r) ∧ Aside0 (kq ≤ k) ∧ Aside0 (Kd.R Kd.string 9 wc w.heap.size (fun _ => True) v184 t182) ∧ Aside0 (wc.heap[gb179]? = some (.cells #[.string a0_0, .string a0_1, .int .i64 a0_2, .string a0_3, .int .i64 a0_4, (.slice A0_5 l0_5.length c0_5), .string a0_6] 26 (0, 0))) ∧ Aside0 (wc.heap[gb180]? = some (.cells #[.string a1_0, .string a1_1, .int .i64 a1_2, .string a1_3, .int .i64 a1_4, (.slice A1_5 l1_5.length c1_5), .string a1_6] 26 (0, 0))) ∧ Aside0 (wc.heap[gb181]? = some (.cells #[.string a2_0, .string a2_1, .int .i64 a2_2, .string a2_3, .int .i64 a2_4, (.slice A2_5 l2_5.length c2_5)] 24 (0, 0))) ∧ Aside0 (Below w.heap.size w wc))
 case first =>
  have H := HC5.out; clear HC5; by_cases c13 : t183 = true
  ·subst c13; rw [if_pos rfl] at H; obtain ⟨y186, hy186⟩ : ∃ y_ : List ByteArray, y_ = (([(⟨#[112, 114, 105, 118, 97, 116, 101]⟩ : ByteArray), (⟨#[110, 111, 45, 115, 116, 111, 114, 101]⟩ : ByteArray)] : List ByteArray)) := ⟨_, rfl⟩; rw [← hy186] at H; have Ny186 := aM hy186; clear hy186; obtain ⟨t189, A14, H⟩ := zc H; (try dsimp only at H); by_cases c15 : t189 = true
   ·subst c15; rw [if_pos rfl] at H; have H' := aM H; clear H; have hnb16 := NB181_179.out; have hnc16 := NB179_181.out; have hnb17 := NB181_180.out; have hnc17 := NB180_181.out; obtain ⟨_, _, _, _, _, _, _, _, _, _, _, _⟩ := cz6 BK181.out
    go_wp2_with (first | ((with_reducible refine gate_dst (N := 20) rfl ?_); (try (refine gate_guard (by rfl) ?_; dsimp only)); refine Kd.R_lit Kd.string _ 9 ?hg (N := 20) ?hd (xs := ([(⟨#[112, 114, 105, 118, 97, 116, 101]⟩ : ByteArray), (⟨#[110, 111, 45, 115, 116, 111, 114, 101]⟩ : ByteArray)] : List ByteArray)) (inner := [.string (⟨#[112, 114, 105, 118, 97, 116, 101]⟩ : ByteArray), .string (⟨#[110, 111, 45, 115, 116, 111, 114, 101]⟩ : ByteArray)]) (ok := fun _ => True) (okp := fun _ => True) ?hr ?hp (fun _ hk => hk) trivial (Below.refl _ _) (Nat.le_refl _) (by simp) ?_; (case hd => rfl); (case hg => rfl); (case hr => exact zG); (case hp => exact (Reps.one (zY (⟨#[112, 114, 105, 118, 97, 116, 101]⟩ : ByteArray)) (Reps.one (zY (⟨#[110, 111, 45, 115, 116, 111, 114, 101]⟩ : ByteArray)) (Reps.none _ _)))); intro v187 w19 ho20 hb hg_ hnew_; clear hg_ hnew_; (first | rw [← Ny186.out] at ho20 | (simp only [Int.reduceToNat] at ho20; rw [← Ny186.out] at ho20)); have HO188 := aM (Kd.R_lower (Kd.R_new' ho20 (Kd.R_lt (zO HO185.out))) (below_size zB)); replace HO185 := aM (Kd.R_elder' (zO HO185.out) (Kd.R_base ho20) hb); replace BK179 := aM (zX BK179.out hb); replace BK180 := aM (zX BK180.out hb); replace BK181 := aM (zX BK181.out hb); replace HB := aM (below_step zB hb); clear hb ho20; obtain ⟨Ao21, co21, eo21⟩ := Kd.R_slice HO188.out; subst eo21) | (go_at_call 33; (with_reducible refine (key_directs.calls k _ _ l2_5 _ _ y186 true _ ?side1 ?side2 ?side3 ?side4 A14.out).mono ?_); (case side1 => exact zC (Kd.C_below HR2_5.out HB.out)); (case side2 => exact HC2_5.out); (case side3 => exact zC ((Kd.R_reads' HO188.out).2.2)); (case side4 => exact (Kd.R_reads' HO188.out).2.1); rintro e w22 ⟨rfl, hb⟩; replace HO185 := aM (Kd.R_below (zO HO185.out) hb); replace HO188 := aM (Kd.R_below (zO HO188.out) hb); replace BK179 := aM (zX BK179.out hb); replace BK180 := aM (zX BK180.out hb); replace BK181 := aM (zX BK181.out hb); replace HB := aM (below_step zB hb); clear hb))
    go_meet
    case rel => exact ⟨_, (true), zR, H', ⟨by first | omega | exact Nat.le_refl _⟩, ⟨by (with_reducible repeat (first | apply rA | apply rN | apply rD)); exact Kd.R_mono HO185.out (fun _ hk => trivial)⟩, ⟨zK BK179.out⟩, ⟨zK BK180.out⟩, ⟨zK BK181.out⟩, ⟨zB⟩⟩
   ·replace c15 := Bool.eq_false_iff.mpr c15; subst c15; rw [if_neg (show ¬ (false = true) by decide)] at H; replace H := Option.bind_eq_some_iff.mp H; obtain ⟨t190, A230, H⟩ := H; replace H : (key_Fits.j0 k t182 (decide ((t190.length : Int) > 0)) a0_0 a0_1 a0_2 a0_3 a0_4 l0_5 a0_6 a1_0 a1_1 a1_2 a1_3 a1_4 l1_5 a1_6) = some r := H; have A23 := aM A230; clear A230; have H' := aM H; clear H; have hnb24 := NB181_179.out; have hnc24 := NB179_181.out; have hnb25 := NB181_180.out; have hnc25 := NB180_181.out; obtain ⟨_, _, _, _, _, _, _, _, _, _, _, _⟩ := cz6 BK181.out
    go_wp2_with (first | ((with_reducible refine gate_dst (N := 20) rfl ?_); (try (refine gate_guard (by rfl) ?_; dsimp only)); refine Kd.R_lit Kd.string _ 9 ?hg (N := 20) ?hd (xs := ([(⟨#[112, 114, 105, 118, 97, 116, 101]⟩ : ByteArray), (⟨#[110, 111, 45, 115, 116, 111, 114, 101]⟩ : ByteArray)] : List ByteArray)) (inner := [.string (⟨#[112, 114, 105, 118, 97, 116, 101]⟩ : ByteArray), .string (⟨#[110, 111, 45, 115, 116, 111, 114, 101]⟩ : ByteArray)]) (ok := fun _ => True) (okp := fun _ => True) ?hr ?hp (fun _ hk => hk) trivial (Below.refl _ _) (Nat.le_refl _) (by simp) ?_; (case hd => rfl); (case hg => rfl); (case hr => exact zG); (case hp => exact (Reps.one (zY (⟨#[112, 114, 105, 118, 97, 116, 101]⟩ : ByteArray)) (Reps.one (zY (⟨#[110, 111, 45, 115, 116, 111, 114, 101]⟩ : ByteArray)) (Reps.none _ _)))); intro v187 w27 ho28 hb hg_ hnew_; clear hg_ hnew_; (first | rw [← Ny186.out] at ho28 | (simp only [Int.reduceToNat] at ho28; rw [← Ny186.out] at ho28)); have HO188 := aM (Kd.R_lower (Kd.R_new' ho28 (Kd.R_lt (zO HO185.out))) (below_size zB)); replace HO185 := aM (Kd.R_elder' (zO HO185.out) (Kd.R_base ho28) hb); replace BK179 := aM (zX BK179.out hb); replace BK180 := aM (zX BK180.out hb); replace BK181 := aM (zX BK181.out hb); replace HB := aM (below_step zB hb); clear hb ho28; obtain ⟨Ao29, co29, eo29⟩ := Kd.R_slice HO188.out; subst eo29) | (go_at_call 33; (with_reducible refine (key_directs.calls k _ _ l2_5 _ _ y186 false _ ?side1 ?side2 ?side3 ?side4 A14.out).mono ?_); (case side1 => exact zC (Kd.C_below HR2_5.out HB.out)); (case side2 => exact HC2_5.out); (case side3 => exact zC ((Kd.R_reads' HO188.out).2.2)); (case side4 => exact (Kd.R_reads' HO188.out).2.1); rintro e w30 ⟨rfl, hb⟩; replace HO185 := aM (Kd.R_below (zO HO185.out) hb); replace HO188 := aM (Kd.R_below (zO HO188.out) hb); replace BK179 := aM (zX BK179.out hb); replace BK180 := aM (zX BK180.out hb); replace BK181 := aM (zX BK181.out hb); replace HB := aM (below_step zB hb); clear hb; obtain ⟨_, _, _, _, _, _, _, _, _, _, _, _⟩ := cz6 BK181.out) | (go_at_call 32; (with_reducible refine (field_Get.calls k _ _ l2_5 (⟨#[83, 101, 116, 45, 67, 111, 111, 107, 105, 101]⟩ : ByteArray) t190 _ ?side1 ?side2 A23.out).mono ?_); (case side1 => exact zC (Kd.C_below HR2_5.out HB.out)); (case side2 => exact HC2_5.out); rintro e w32 ⟨v191, rfl, ho0, hb⟩; have HO192 := aM (Kd.R_lower (Kd.R_new' (Kd.R_new' ho0 (Kd.R_lt (zO HO185.out))) (Kd.R_lt (zO HO188.out))) (below_size zB)); replace HO185 := aM (Kd.R_elder' (zO HO185.out) (Kd.R_base ho0) hb); replace HO188 := aM (Kd.R_elder' (zO HO188.out) (Kd.R_base ho0) hb); replace BK179 := aM (zX BK179.out hb); replace BK180 := aM (zX BK180.out hb); replace BK181 := aM (zX BK181.out hb); replace HB := aM (below_step zB hb); clear hb ho0; obtain ⟨Ao33, co33, eo33⟩ := Kd.R_slice HO192.out; subst eo33))
    go_meet
    case rel => exact ⟨_, (decide ((t190.length : Int) > 0)), zR, H', ⟨by first | omega | exact Nat.le_refl _⟩, ⟨by (with_reducible repeat (first | apply rA | apply rN | apply rD)); exact Kd.R_mono HO185.out (fun _ hk => trivial)⟩, ⟨zK BK179.out⟩, ⟨zK BK180.out⟩, ⟨zK BK181.out⟩, ⟨zB⟩⟩
  ·replace c13 := Bool.eq_false_iff.mpr c13; subst c13; rw [if_neg (show ¬ (false = true) by decide)] at H; have H' := aM H; clear H
   go_wp2
   go_meet
   case rel => exact ⟨_, (true), zR, H', ⟨by first | omega | exact Nat.le_refl _⟩, ⟨zO HO185.out⟩, ⟨zK BK179.out⟩, ⟨zK BK180.out⟩, ⟨zK BK181.out⟩, ⟨zB⟩⟩
 case rest =>
  clear HC5; (try clear c1); (try clear c2); (try clear p2); (try clear c9); (try clear c10); (try clear c13); (try clear c15); (try clear c16); (try clear c17); (try clear c18); (try clear c24); (try clear c25); obtain ⟨kq, x29_4, rfl, HA, HJ4, HO_7, BK179, BK180, BK181, HB⟩ := hcut; cases kq with
  | zero => exact absurd HA.out (by simp [key_Fits.j0])
  | succ kj4 =>
   have H := HA.out; clear HA; simp only [key_Fits.j0] at H; by_cases c34 : x29_4 = true
   ·subst c34; rw [if_pos rfl] at H; obtain rfl := Option.some.inj H
    go_wp2
    go_ret
    exact ⟨zE, zB⟩
   ·replace c34 := Bool.eq_false_iff.mpr c34; subst c34; rw [if_neg (show ¬ (false = true) by decide)] at H; replace H := Option.bind_eq_some_iff.mp H; obtain ⟨t193, A350, H⟩ := H; replace H : ((key_Split.f kj4 t182 l1_5).bind fun t194 => (some (t193.toList == t194.toList))) = some r := H; have A35 := aM A350; clear A350; replace H := Option.bind_eq_some_iff.mp H; obtain ⟨t194, A360, H⟩ := H; replace H : (some (t193.toList == t194.toList)) = some r := H; have A36 := aM A360; clear A360; obtain rfl := Option.some.inj H
    try go_wp2
    replace HO_7 := aM (rD HO_7.out); replace BK179 := aM (bD BK179.out); replace BK180 := aM (bD BK180.out); replace BK181 := aM (bD BK181.out); replace HB := aM (lD HB.out); obtain ⟨Ao38, co38, eo38⟩ := Kd.R_slice HO_7.out
    (first | subst eo38 | (injection eo38 with f1_ f2_ f3_; have f4_ := f1_.symm; have f5_ := f3_.symm; clear f1_ f2_ f3_; subst f4_; subst f5_))
    refine start_ (n := 12) (S := fun w' => w'.cell? ⟨gb179, 0, none⟩ = some (.string a0_0) ∧ w'.cell? ⟨gb179, 1, none⟩ = some (.string a0_1) ∧ w'.cell? ⟨gb179, 2, none⟩ = some (.int .i64 a0_2) ∧ w'.cell? ⟨gb179, 3, none⟩ = some (.string a0_3) ∧ w'.cell? ⟨gb179, 4, none⟩ = some (.int .i64 a0_4) ∧ w'.cell? ⟨gb179, 5, none⟩ = some (.slice A0_5 l0_5.length c0_5) ∧ w'.cell? ⟨gb179, 6, none⟩ = some (.string a0_6) ∧ w'.cell? ⟨gb180, 0, none⟩ = some (.string a1_0) ∧ w'.cell? ⟨gb180, 1, none⟩ = some (.string a1_1) ∧ w'.cell? ⟨gb180, 2, none⟩ = some (.int .i64 a1_2) ∧ w'.cell? ⟨gb180, 3, none⟩ = some (.string a1_3) ∧ w'.cell? ⟨gb180, 4, none⟩ = some (.int .i64 a1_4) ∧ w'.cell? ⟨gb180, 5, none⟩ = some (.slice A1_5 l1_5.length c1_5) ∧ w'.cell? ⟨gb180, 6, none⟩ = some (.string a1_6)) (ds := []) (dB 12 0) (by kernel_rfl) rfl rfl ⟨(blk_cell BK179.out 0).trans rfl, (blk_cell BK179.out 1).trans rfl, (blk_cell BK179.out 2).trans rfl, (blk_cell BK179.out 3).trans rfl, (blk_cell BK179.out 4).trans rfl, (blk_cell BK179.out 5).trans rfl, (blk_cell BK179.out 6).trans rfl, (blk_cell BK180.out 0).trans rfl, (blk_cell BK180.out 1).trans rfl, (blk_cell BK180.out 2).trans rfl, (blk_cell BK180.out 3).trans rfl, (blk_cell BK180.out 4).trans rfl, (blk_cell BK180.out 5).trans rfl, (blk_cell BK180.out 6).trans rfl⟩ (fun hHeld => ?_); refine with_tabW key_Fits.tab4 key_Fits.bits4 (fun HT_ HW_ => ?_)
    generalize wc.drew = w37 at HO_7 BK179 BK180 BK181 HB hHeld ⊢
    refine pR 0 30 (dB 12 1) HT_.out ?_
    refine pR 1 31 (dB 12 3) HT_.out ?_
    refine pR 2 32 (dB 12 7) HT_.out ?_
    refine pR 5 35 (dB 12 39) HT_.out ?_
    refine pR 6 36 (dB 12 103) HT_.out ?_
    refine pR 7 37 (dB 12 231) HT_.out ?_
    refine tR 3 33 (dB 12 239) HT_.out HW_.out hHeld ?_
    refine tR 8 38 (dB 12 495) HT_.out HW_.out hHeld ?_
    refine oR 4 34 (dB 12 511) HT_.out (fun K hK => ?_)
    refine goes_ Tryz.func22 (by kernel_rfl) rfl #[.slice Ao38 t182.length co38, .slice A0_5 l0_5.length c0_5] (by rfl) rfl rfl zL ?_
    with_reducible refine (key_Split.calls kj4 _ _ t182 _ _ l0_5 t193 _ ?side1 ?side2 ?side3 ?side4 A35.out).mono ?_
    (case side1 => exact zC ((Kd.R_reads' HO_7.out).2.2))
    (case side2 => exact (Kd.R_reads' HO_7.out).2.1)
    (case side3 => exact zC (Kd.C_below HR0_5.out HB.out))
    (case side4 => exact HC0_5.out)
    rintro e w39 ⟨rfl, hb⟩
    refine ⟨_, rfl, ?_⟩
    replace HO_7 := aM (Kd.R_below (zO HO_7.out) hb); replace BK179 := aM (zX BK179.out hb); replace BK180 := aM (zX BK180.out hb); replace BK181 := aM (zX BK181.out hb); replace HB := aM (below_step zB hb)
    (try clear hb)
    (try clear hb2)
    (try clear hk)
    (try clear hi)
    refine hK.out _ _ ⟨(blk_cell BK179.out 0).trans rfl, (blk_cell BK179.out 1).trans rfl, (blk_cell BK179.out 2).trans rfl, (blk_cell BK179.out 3).trans rfl, (blk_cell BK179.out 4).trans rfl, (blk_cell BK179.out 5).trans rfl, (blk_cell BK179.out 6).trans rfl, (blk_cell BK180.out 0).trans rfl, (blk_cell BK180.out 1).trans rfl, (blk_cell BK180.out 2).trans rfl, (blk_cell BK180.out 3).trans rfl, (blk_cell BK180.out 4).trans rfl, (blk_cell BK180.out 5).trans rfl, (blk_cell BK180.out 6).trans rfl⟩ (fun hHeld => ?_)
    clear hK K
    refine norm_ (a' := ?_) ?_ ?_
    rotate_left
    ·show Act.put _ (some 34) _ = _
     exact zP
    refine oR 9 39 (dB 12 1023) HT_.out (fun K hK => ?_)
    refine goes_ Tryz.func22 (by kernel_rfl) rfl #[.slice Ao38 t182.length co38, .slice A1_5 l1_5.length c1_5] (by rfl) rfl rfl zL ?_
    with_reducible refine (key_Split.calls kj4 _ _ t182 _ _ l1_5 t194 _ ?side1 ?side2 ?side3 ?side4 A36.out).mono ?_
    (case side1 => exact zC ((Kd.R_reads' HO_7.out).2.2))
    (case side2 => exact (Kd.R_reads' HO_7.out).2.1)
    (case side3 => exact zC (Kd.C_below HR1_5.out HB.out))
    (case side4 => exact HC1_5.out)
    rintro e w40 ⟨rfl, hb⟩
    refine ⟨_, rfl, ?_⟩
    replace HO_7 := aM (Kd.R_below (zO HO_7.out) hb); replace BK179 := aM (zX BK179.out hb); replace BK180 := aM (zX BK180.out hb); replace BK181 := aM (zX BK181.out hb); replace HB := aM (below_step zB hb)
    (try clear hb)
    (try clear hb2)
    (try clear hk)
    (try clear hi)
    refine hK.out _ _ ⟨(blk_cell BK179.out 0).trans rfl, (blk_cell BK179.out 1).trans rfl, (blk_cell BK179.out 2).trans rfl, (blk_cell BK179.out 3).trans rfl, (blk_cell BK179.out 4).trans rfl, (blk_cell BK179.out 5).trans rfl, (blk_cell BK179.out 6).trans rfl, (blk_cell BK180.out 0).trans rfl, (blk_cell BK180.out 1).trans rfl, (blk_cell BK180.out 2).trans rfl, (blk_cell BK180.out 3).trans rfl, (blk_cell BK180.out 4).trans rfl, (blk_cell BK180.out 5).trans rfl, (blk_cell BK180.out 6).trans rfl⟩ (fun hHeld => ?_)
    clear hK K
    refine norm_ (a' := ?_) ?_ ?_
    rotate_left
    ·show Act.put _ (some 39) _ = _
     exact zP
    refine pR 10 40 (dB 12 2047) HT_.out ?_
    refine pR 11 6 (dB 12 4095) HT_.out ?_
    refine done_ (done_of HT_.out (by kernel_rfl)) ?_
    try go_wp2
    go_ret
    exact ⟨zE, zB⟩

def lockageref05_Strings.l0 : Nat → List ByteArray → List ByteArray → Int → Option (Bool)
 | 0, _, _, _ => none
 | k + 1, x0, x1, x5 => if x5 < (x0.length : Int) then (if 0 ≤ x5 then (if x5 < (x1.length : Int) then (if (rdOf ByteArray.empty x0 x5).toList = (rdOf ByteArray.empty x1 x5).toList then (lockageref05_Strings.l0 k x0 x1 (wrap64 (x5 + 1))) else (some false)) else (none)) else (none)) else (some true)
def lockageref05_Strings.f (k : Nat) (l0 : List ByteArray) (l1 : List ByteArray) : Option (Bool) := if (l0.length : Int) = (l1.length : Int) then (lockageref05_Strings.l0 k l0 l1 0) else (some false)
theorem lockageref05_Strings.mono_l : ∀ k, (∀ y0 y1 y2, LeO (lockageref05_Strings.l0 k y0 y1 y2) (lockageref05_Strings.l0 (k + 1) y0 y1 y2))
 | 0 => fun _ _ _ r h => by simp [lockageref05_Strings.l0] at h
 | k + 1 => by
  have ih0 := lockageref05_Strings.mono_l k
  ·intro y0 y1 y2
   unfold lockageref05_Strings.l0; exact zM
theorem lockageref05_Strings.mono : ∀ a0 a1 k, LeO (lockageref05_Strings.f k a0 a1) (lockageref05_Strings.f (k + 1) a0 a1) := by
 intro a0 a1 k
 have ih0 := lockageref05_Strings.mono_l k
 unfold lockageref05_Strings.f; exact zM
set_option maxHeartbeats 8000000 in
set_option maxRecDepth 100000 in
theorem lockageref05_Strings.calls (k : Nat) (A0 : Option Addr) (c0 : Nat) (l0 : List ByteArray) (A1 : Option Addr) (c1 : Nat) (l1 : List ByteArray) (r : Bool) (w : World) (hr0 : Kd.C Kd.string w A0 l0.length l0) (hc0 : l0.length ≤ c0) (hr1 : Kd.C Kd.string w A1 l1.length l1) (hc1 : l1.length ≤ c1) (h : lockageref05_Strings.f k l0 l1 = some r) :
  Calls Tryz.prog 20 #[.slice A0 l0.length c0, .slice A1 l1.length c1] w fun e w' => e = .returned (.bool r) ∧ Drawn0 w w' := by
 have HR0 := aM hr0; have HC0 := aM hc0; clear hr0 hc0; have HR1 := aM hr1; have HC1 := aM hc1; clear hr1 hc1; have H : (if (l0.length : Int) = (l1.length : Int) then (lockageref05_Strings.l0 k l0 l1 0) else (some false)) = some r := h; clear h; by_cases c3 : (l0.length : Int) = (l1.length : Int)
 ·rw [if_pos c3] at H; obtain ⟨c3b0, c3b1⟩ := zd c3; (have c3b2 : (l0.length == l1.length) = true := by first | simpa using c3 | (simp at c3 ⊢; omega)); clear c3; have H' := aM H; clear H
  go_enter Tryz.func20, Tryz.ntmps20
  go_wp2
  repeat (go_quiet (fail); try go_wp2)
  go_loopg [5] k (fun kq v5 w' => ∃ (x5_1 : Int), v5 = .int .i64 x5_1 ∧ Aside0 (lockageref05_Strings.l0 kq l0 l1 x5_1 = some r) ∧ Aside0 (kq ≤ k) ∧ Drawn0 w w')
  case atStart => exact ⟨(0), zR, H', ⟨Nat.le_refl _⟩, zD⟩
  case round =>
   clear H'; (try clear c1); (try clear c2); (try clear p2); (try clear c3); (try clear c3b0); (try clear c3b1); (try clear c3b2); obtain ⟨x5_1, rfl, HA, HK1, ⟨m1, rfl⟩⟩ := hrel; cases gk with
   | zero => exact absurd HA.out (by simp [lockageref05_Strings.l0])
   | succ k1 =>
    have H := HA.out; clear HA; simp only [lockageref05_Strings.l0] at H; by_cases c4 : x5_1 < (l0.length : Int)
    ·rw [if_pos c4] at H; have c4b0 := decide_eq_true c4; clear c4; by_cases c5 : 0 ≤ x5_1
     ·rw [if_pos c5] at H; have c5b0 := decide_eq_true c5; clear c5; by_cases c6 : x5_1 < (l1.length : Int)
      ·rw [if_pos c6] at H; have c6b0 := decide_eq_true c6; clear c6; by_cases c7 : (rdOf ByteArray.empty l0 x5_1).toList = (rdOf ByteArray.empty l1 x5_1).toList
       ·rw [if_pos c7] at H; obtain ⟨c7b0, c7b1⟩ := zd c7; clear c7; have H' := aM H; clear H; have p195 : 0 ≤ (x5_1 : Int) := of_decide_eq_true zA; have q195 : x5_1 < (l0.length : Int) := of_decide_eq_true zA; obtain ⟨ad195, e195, hx195_0⟩ := Kd.at_string HR0.out x5_1 p195 q195; cases e195; replace p195 := eq_true p195; replace q195 := eq_true q195; have p196 : 0 ≤ (x5_1 : Int) := of_decide_eq_true zA; have q196 : x5_1 < (l1.length : Int) := of_decide_eq_true zA; obtain ⟨ad196, e196, hx196_0⟩ := Kd.at_string HR1.out x5_1 p196 q196; cases e196; replace p196 := eq_true p196; replace q196 := eq_true q196
        go_wp2
        repeat (go_quiet (fail); try go_wp2)
        go_roundg k1
        case measure => have := HK1.out; omega
        case rel => exact ⟨(wrap64 (x5_1 + 1)), zR, H', ⟨by have := HK1.out; omega⟩, zD⟩
       ·rw [if_neg c7] at H; obtain ⟨c7b0, c7b1⟩ := ze c7; obtain rfl := Option.some.inj H; have p195 : 0 ≤ (x5_1 : Int) := of_decide_eq_true zA; have q195 : x5_1 < (l0.length : Int) := of_decide_eq_true zA; obtain ⟨ad195, e195, hx195_0⟩ := Kd.at_string HR0.out x5_1 p195 q195; cases e195; replace p195 := eq_true p195; replace q195 := eq_true q195; have p196 : 0 ≤ (x5_1 : Int) := of_decide_eq_true zA; have q196 : x5_1 < (l1.length : Int) := of_decide_eq_true zA; obtain ⟨ad196, e196, hx196_0⟩ := Kd.at_string HR1.out x5_1 p196 q196; cases e196; replace p196 := eq_true p196; replace q196 := eq_true q196
        go_wp2
        repeat (go_quiet (fail); try go_wp2)
        go_ret
        exact ⟨zR, zD⟩
      ·exact zf c6 H
     ·exact zf c5 H
    ·rw [if_neg c4] at H; have c4b0 := decide_eq_false c4; clear c4; obtain rfl := Option.some.inj H
     go_wp2
     repeat (go_quiet (fail); try go_wp2)
     go_ret
     exact ⟨zR, zD⟩
 ·rw [if_neg c3] at H; obtain ⟨c3b0, c3b1⟩ := ze c3; (have c3b2 : (l0.length == l1.length) = false := by first | simpa using c3 | (simp at c3 ⊢; omega)); obtain rfl := Option.some.inj H
  go_enter Tryz.func20, Tryz.ntmps20
  go_wp2
  repeat (go_quiet (fail); try go_wp2)
  go_ret
  exact ⟨zR, zD⟩

end Go.Proofs.YthmallhjbhphgaaGreatDoor.P
