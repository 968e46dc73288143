/- Printed by a program of the session out of the translation: plain Lean functions, each with the contract that the Go function computes it. -/
import Derived.Test.YtapeodbgobkjeaaGreatDoorHZM
import Derived.Test.YtapeodbgobkjeaaGreatDoorPx0
import Derived.Test.YtapeodbgobkjeaaGreatDoorPx4
import Derived.Test.YtapeodbgobkjeaaGreatDoorPx5
import Derived.Test.YtapeodbgobkjeaaGreatDoorHZB
namespace Go.Proofs.YtapeodbgobkjeaaGreatDoor.P
open Go.RowKit Go.Proofs.YtapeodbgobkjeaaGreatDoorW.PrintWords Go.Proofs.YtapeodbgobkjeaaGreatDoorW.PrintLast Go.Proofs.YtapeodbgobkjeaaGreatDoorW.PrintMore
attribute [local go_sem] max2_int min2_int max_two min_two max_three min_three max_four min_four   -- for this text's walks alone
set_option linter.unusedVariables false
set_option linter.unusedSimpArgs false

def head_request.f (k : Nat) (l0 : List ByteArray) : Option (ByteArray × ByteArray × Int × ByteArray × Int × (List (S40)) × Int) := if 0 < (l0.length : Int) then (if 1 < (l0.length : Int) then ((field_Name.f (rdOf ByteArray.empty l0 0)).bind fun t113 => (if t113 = true then ((head_target.f k (rdOf ByteArray.empty l0 1)).bind fun t114 => (if t114 = true then (if 2 < (l0.length : Int) then ((head_version.f k (rdOf ByteArray.empty l0 2)).bind fun bt116 => (some (rdOf ByteArray.empty l0 0, rdOf ByteArray.empty l0 1, 0, (⟨#[]⟩ : ByteArray), bt116.1, ([] : List (S40)), bt116.2))) else (none)) else (some (rdOf ByteArray.empty l0 0, rdOf ByteArray.empty l0 1, 0, (⟨#[]⟩ : ByteArray), 0, ([] : List (S40)), 20)))) else (some (rdOf ByteArray.empty l0 0, rdOf ByteArray.empty l0 1, 0, (⟨#[]⟩ : ByteArray), 0, ([] : List (S40)), 20)))) else (none)) else (none)
theorem head_request.mono : ∀ a0 k, LeO (head_request.f k a0) (head_request.f (k + 1) a0) := by
 intro a0 k
 unfold head_request.f; have m0 := @head_target.mono; have m1 := @head_version.mono; exact zM
def head_request.T1 : Bool × List (List Nat × List Nat) := (true, [([], []), ([0], [0]), ([1], [1]), ([], []), ([3], [3]), ([4], [4]), ([0, 1, 2], []), ([6, 2, 0, 1, 2], [2, 6]), ([0, 1, 2, 3, 4, 5, 6, 7], []), ([8, 5, 7, 0, 1, 2, 3, 4, 5, 6, 7], [5, 8])])
def head_request.B1 : List Nat := [0, 1, 3, 0, 8, 24, 7, 71, 255, 511]
theorem head_request.tab1 : rtab .any (opsOf Tryz.f134 1) = head_request.T1 := by kernel_rfl
theorem head_request.bits1 : waitsOk head_request.T1.2 head_request.B1 = true := by kernel_rfl
set_option maxHeartbeats 8000000 in
set_option maxRecDepth 100000 in
theorem head_request.calls (k : Nat) (A0 : Option Addr) (c0 : Nat) (l0 : List ByteArray) (r1 : ByteArray) (r2 : ByteArray) (r3 : Int) (r4 : ByteArray) (r5 : Int) (r6 : List (S40)) (r7 : Int) (w : World) (hr0 : Kd.C Kd.string w A0 l0.length l0) (hc0 : l0.length ≤ c0) (h : head_request.f k l0 = some (r1, r2, r3, r4, r5, r6, r7)) :
  Calls Tryz.prog 134 #[.slice A0 l0.length c0] w fun e w' => ∃ v5_ : Value, e = .returned (.tuple #[.agg #[.string r1, .string r2, .int .i64 r3, .string r4, .int .i64 r5, v5_], .int .i64 r7]) ∧ Kd.R k40 40 w' w.heap.size (fun _ => True) v5_ r6 ∧ Below w.heap.size w w' := by
 have hu29 := Tryz.underlying29; have HR0 := aM hr0; have HC0 := aM hc0; clear hr0 hc0; have HB := aM (Below.refl w.heap.size w); have H := h; unfold head_request.f at H; clear h; by_cases c2 : 0 < (l0.length : Int)
 ·rw [if_pos c2] at H; have c2b0 := decide_eq_true c2; have c2b1 : decide (0 < l0.length) = true := decide_eq_true (by omega); clear c2; by_cases c3 : 1 < (l0.length : Int)
  ·rw [if_pos c3] at H; have c3b0 := decide_eq_true c3; have c3b1 : decide (1 < l0.length) = true := decide_eq_true (by omega); clear c3; obtain ⟨t113, A4, H⟩ := zc H; (try dsimp only at H); by_cases c5 : t113 = true
   ·subst c5; rw [if_pos rfl] at H; obtain ⟨t114, A6, H⟩ := zc H; (try dsimp only at H); by_cases c7 : t114 = true
    ·subst c7; rw [if_pos rfl] at H; by_cases c8 : 2 < (l0.length : Int)
     ·rw [if_pos c8] at H; have c8b0 := decide_eq_true c8; have c8b1 : decide (2 < l0.length) = true := decide_eq_true (by omega); clear c8; replace H := Option.bind_eq_some_iff.mp H; obtain ⟨⟨t116, t117⟩, A90, H⟩ := H; replace H : (some (rdOf ByteArray.empty l0 0, rdOf ByteArray.empty l0 1, 0, (⟨#[]⟩ : ByteArray), t116, ([] : List (S40)), t117)) = some (r1, r2, r3, r4, r5, r6, r7) := H; have A9 := aM A90; clear A90; simp only [Option.some.injEq, Prod.mk.injEq] at H; obtain ⟨rfl, rfl, rfl, rfl, rfl, rfl, rfl⟩ := H
      go_enter Tryz.func134, Tryz.ntmps134
      try go_wp2_with (first | ((with_reducible refine gate_dst (N := 2) rfl ?_); refine box_event ?hg (N := 2) ?hd (cs := #[.string (⟨#[]⟩ : ByteArray), .string (⟨#[]⟩ : ByteArray), .int .i64 0, .string (⟨#[]⟩ : ByteArray), .int .i64 0, .slice none 0 0]) (t := 29) ?hr ?_; (case hd => rfl); (case hg => rfl); (case hr => exact zG); intro gb110 hg w10 hbox hb; have BK110 := aM hbox; have GW110 := aM (by rw [hg]; exact (below_size zB) : w.heap.size ≤ gb110); replace HB := aM (below_step zB hb); have GE110 := GW110; clear hb hbox hg))
      replace BK110 := aM (bD BK110.out); replace HB := aM (lD HB.out); have p111 : 0 ≤ (0 : Int) := (by omega); have q111 : 0 < (l0.length : Int) := of_decide_eq_true zA; obtain ⟨ad111, e111, hx111_0⟩ := Kd.at_string HR0.out 0 p111 q111; have hw111_0 := hx111_0
      (try rw [show ((0 : Int)).toNat = 0 from rfl] at hw111_0)
      (try rw [show 0 * 1 = 0 from rfl] at hw111_0)
      (try rw [Addr.add_zero'] at hw111_0)
      cases e111; have qi111 : (0 < l0.length) = True := eq_true (by omega)
      (try rw [show ((0 : Int)).toNat = 0 from rfl] at hx111_0)
      (try rw [Addr.add_zero'] at hx111_0)
      replace hx111_0 := (HB.out.cell (World.block_lt_of_cell? w _ hx111_0)).trans hx111_0; replace p111 := eq_true p111; replace q111 := eq_true q111; have p112 : 0 ≤ (1 : Int) := (by omega); have q112 : 1 < (l0.length : Int) := of_decide_eq_true zA; obtain ⟨ad112, e112, hx112_0⟩ := Kd.at_string HR0.out 1 p112 q112; have hw112_0 := hx112_0
      (try rw [show ((1 : Int)).toNat = 1 from rfl] at hw112_0)
      (try rw [show 1 * 1 = 1 from rfl] at hw112_0)
      (try simp only [Nat.reduceMul, Nat.reduceEqDiff, Go.Addr.add, ↓reduceIte] at hw112_0)
      obtain rfl : ad111 = ad112 := (by injection e112)
      (try simp only [show (1 : Int).toNat = 1 from rfl, Nat.reduceMul, Nat.reduceEqDiff, Go.Addr.add, ↓reduceIte] at hx112_0)
      have qi112 : (1 < l0.length) = True := eq_true (by omega)
      (try rw [show ((1 : Int)).toNat = 1 from rfl] at hx112_0)
      replace hx112_0 := (HB.out.cell (World.block_lt_of_cell? w _ hx112_0)).trans hx112_0; replace p112 := eq_true p112; replace q112 := eq_true q112
      refine start_ (n := 10) (S := fun w' => w'.cell? ad111 = some (.string (rdOf ByteArray.empty l0 0)) ∧ w'.cell? ⟨ad111.block, ad111.off + 1, none⟩ = some (.string (rdOf ByteArray.empty l0 1))) (ds := []) (dB 10 0) (by kernel_rfl) rfl rfl ⟨((HB.out.cell (World.block_lt_of_cell? w _ hw111_0)).trans hw111_0), ((HB.out.cell (World.block_lt_of_cell? w _ hw112_0)).trans hw112_0)⟩ (fun hHeld => ?_); refine with_tabW head_request.tab1 head_request.bits1 (fun HT_ HW_ => ?_)
      generalize w10.drew = w11 at BK110 HB hx111_0 hx112_0 hHeld ⊢
      refine pR 0 4 (dB 10 1) HT_.out ?_
      refine pR 1 5 (dB 10 3) HT_.out ?_
      refine pR 3 7 (dB 10 11) HT_.out ?_
      refine pR 4 8 (dB 10 27) HT_.out ?_
      refine tR 2 6 (dB 10 31) HT_.out HW_.out hHeld ?_
      refine pR 6 10 (dB 10 95) HT_.out ?_
      refine tR 5 9 (dB 10 127) HT_.out HW_.out hHeld ?_
      refine one_ (i := 7) (N := none) (dB 10 255) rfl rfl (one_of HT_.out (by kernel_rfl)) (by decide) (fun K hK => ?_)
      have hs12 : w11.cell? ⟨gb110, 0, none⟩ = some (.string (⟨#[]⟩ : ByteArray)) := (blk_cell BK110.out 0).trans rfl; have hfs12 := blk_frozen BK110.out 0
      refine skip_ (w1 := ?_) (by rfl) rfl ?_ ?_
      rotate_left
      ·go_simp; rfl
      refine hK.out _ _ ⟨((cell_far (p := ⟨gb110, _, none⟩) (by first | exact Nat.ne_of_lt (Nat.lt_of_lt_of_le (by have := World.block_lt_of_cell? _ _ hw111_0; first | rwa [add_block] at this | exact this) GW110.out) | (rw [add_block]; exact Nat.ne_of_lt (Nat.lt_of_lt_of_le (by have := World.block_lt_of_cell? _ _ hw111_0; first | rwa [add_block] at this | exact this) GW110.out)) | (show (Addr.add _ _).block ≠ _; rw [add_block]; exact Nat.ne_of_lt (Nat.lt_of_lt_of_le (by have := World.block_lt_of_cell? _ _ hw111_0; first | rwa [add_block] at this | exact this) GW110.out)) | (dsimp only; exact Nat.ne_of_lt (Nat.lt_of_lt_of_le (by have := World.block_lt_of_cell? _ _ hw111_0; first | rwa [add_block] at this | exact this) GW110.out))) _).trans (hHeld.1)), ((cell_far (p := ⟨gb110, _, none⟩) (by first | exact Nat.ne_of_lt (Nat.lt_of_lt_of_le (by have := World.block_lt_of_cell? _ _ hw112_0; first | rwa [add_block] at this | exact this) GW110.out) | (rw [add_block]; exact Nat.ne_of_lt (Nat.lt_of_lt_of_le (by have := World.block_lt_of_cell? _ _ hw112_0; first | rwa [add_block] at this | exact this) GW110.out)) | (show (Addr.add _ _).block ≠ _; rw [add_block]; exact Nat.ne_of_lt (Nat.lt_of_lt_of_le (by have := World.block_lt_of_cell? _ _ hw112_0; first | rwa [add_block] at this | exact this) GW110.out)) | (dsimp only; exact Nat.ne_of_lt (Nat.lt_of_lt_of_le (by have := World.block_lt_of_cell? _ _ hw112_0; first | rwa [add_block] at this | exact this) GW110.out))) _).trans (hHeld.2))⟩ (fun hHeld => ?_)
      clear hK K
      refine pR 8 11 (dB 10 511) HT_.out ?_
      refine one_ (i := 9) (N := none) (dB 10 1023) rfl rfl (one_of HT_.out (by kernel_rfl)) (by decide) (fun K hK => ?_)
      have hs13 : w11.cell? ⟨gb110, 1, none⟩ = some (.string (⟨#[]⟩ : ByteArray)) := (blk_cell BK110.out 1).trans rfl; have hfs13 := blk_frozen BK110.out 1
      refine skip_ (w1 := ?_) (by rfl) rfl ?_ ?_
      rotate_left
      ·go_simp; rfl
      refine hK.out _ _ ⟨((cell_far (p := ⟨gb110, _, none⟩) (by first | exact Nat.ne_of_lt (Nat.lt_of_lt_of_le (by have := World.block_lt_of_cell? _ _ hw111_0; first | rwa [add_block] at this | exact this) GW110.out) | (rw [add_block]; exact Nat.ne_of_lt (Nat.lt_of_lt_of_le (by have := World.block_lt_of_cell? _ _ hw111_0; first | rwa [add_block] at this | exact this) GW110.out)) | (show (Addr.add _ _).block ≠ _; rw [add_block]; exact Nat.ne_of_lt (Nat.lt_of_lt_of_le (by have := World.block_lt_of_cell? _ _ hw111_0; first | rwa [add_block] at this | exact this) GW110.out)) | (dsimp only; exact Nat.ne_of_lt (Nat.lt_of_lt_of_le (by have := World.block_lt_of_cell? _ _ hw111_0; first | rwa [add_block] at this | exact this) GW110.out))) _).trans (hHeld.1)), ((cell_far (p := ⟨gb110, _, none⟩) (by first | exact Nat.ne_of_lt (Nat.lt_of_lt_of_le (by have := World.block_lt_of_cell? _ _ hw112_0; first | rwa [add_block] at this | exact this) GW110.out) | (rw [add_block]; exact Nat.ne_of_lt (Nat.lt_of_lt_of_le (by have := World.block_lt_of_cell? _ _ hw112_0; first | rwa [add_block] at this | exact this) GW110.out)) | (show (Addr.add _ _).block ≠ _; rw [add_block]; exact Nat.ne_of_lt (Nat.lt_of_lt_of_le (by have := World.block_lt_of_cell? _ _ hw112_0; first | rwa [add_block] at this | exact this) GW110.out)) | (dsimp only; exact Nat.ne_of_lt (Nat.lt_of_lt_of_le (by have := World.block_lt_of_cell? _ _ hw112_0; first | rwa [add_block] at this | exact this) GW110.out))) _).trans (hHeld.2))⟩ (fun hHeld => ?_)
      clear hK K
      refine done_ (done_of HT_.out (by kernel_rfl)) ?_
      obtain ⟨_, _, _, _, _, _, _, _, _, _, _, _⟩ := cz6 BK110.out
      try go_wp2_with (first | ((with_reducible refine gate_callee (f := 66) rfl ?_); refine goesL_ (some 14) rfl rfl Tryz.func66 (by kernel_rfl) rfl #[.string (rdOf ByteArray.empty l0 0)] rfl zL ?_; (with_reducible refine (field_Name.calls (rdOf ByteArray.empty l0 0) true _ A4.out).mono ?_); rintro e w' ⟨rfl, ⟨nd, rfl⟩⟩; refine ⟨_, rfl, ?_⟩) | (go_at_call 71; (with_reducible refine (head_target.calls k (rdOf ByteArray.empty l0 1) true _ A6.out).mono ?_); rintro e w' ⟨rfl, ⟨nd, rfl⟩⟩; have p115 : 0 ≤ (2 : Int) := (by omega); have q115 : 2 < (l0.length : Int) := of_decide_eq_true zA; obtain ⟨ad115, e115, hx115_0⟩ := Kd.at_string HR0.out 2 p115 q115; obtain rfl : ad111 = ad115 := (by injection e115); (try simp only [show (2 : Int).toNat = 2 from rfl, Nat.reduceMul, Nat.reduceEqDiff, Go.Addr.add, ↓reduceIte] at hx115_0); have qi115 : (2 < l0.length) = True := eq_true (by omega); (try rw [show ((2 : Int)).toNat = 2 from rfl] at hx115_0); have hn115_0 : ad111.block ≠ gb110 := Nat.ne_of_lt (Nat.lt_of_lt_of_le (by have := World.block_lt_of_cell? _ _ hx115_0; first | rwa [add_block] at this | exact this) GW110.out); have hn115_1 : ad111.block ≠ gb110 := Nat.ne_of_lt (Nat.lt_of_lt_of_le (by have := World.block_lt_of_cell? _ _ hx115_0; first | rwa [add_block] at this | exact this) GW110.out); replace hx115_0 := (HB.out.cell (World.block_lt_of_cell? w _ hx115_0)).trans hx115_0; replace hx115_0 := (cell_far (p := ⟨gb110, 0, none⟩) (by first | (rw [add_block]; exact hn115_0) | (show (Addr.add _ _).block ≠ _; rw [add_block]; exact hn115_0) | exact hn115_0) (.string (rdOf ByteArray.empty l0 0))).trans hx115_0; replace hx115_0 := (cell_far (p := ⟨gb110, 1, none⟩) (by first | (rw [add_block]; exact hn115_1) | (show (Addr.add _ _).block ≠ _; rw [add_block]; exact hn115_1) | exact hn115_1) (.string (rdOf ByteArray.empty l0 1))).trans hx115_0; clear hn115_0 hn115_1; replace p115 := eq_true p115; replace q115 := eq_true q115) | ((with_reducible refine gate_callee (f := 157) rfl ?_); refine goesL_ (some 27) rfl rfl Tryz.func157 (by kernel_rfl) rfl #[.string (rdOf ByteArray.empty l0 2)] rfl zL ?_; (with_reducible refine (head_version.calls k (rdOf ByteArray.empty l0 2) t116 t117 _ A9.out).mono ?_); rintro e w' ⟨rfl, ⟨nd, rfl⟩⟩; refine ⟨_, rfl, ?_⟩))
      refine bodyPost_ret (results_ct rfl _ _ gb110 29 #[.string (rdOf ByteArray.empty l0 0), .string (rdOf ByteArray.empty l0 1), .int .i64 0, .string (⟨#[]⟩ : ByteArray), .int .i64 t116, .slice none 0 0] (0, 0) _ rfl (zQ6 BK110.out) Tryz.underlying29 rfl (by kernel_rfl)) rfl ?_
      exact ⟨_, zE, by first | exact Kd.R_nil _ _ _ _ _ | exact Kd.N_nil _ _ _ _ _ | exact Kd.V_nil _ _ _ _ _ | exact Kd.Q_nil _ _ _ _ _ | exact Kd.S_nil _ _ _ _ _, zB⟩
     ·exact zf c8 H
    ·replace c7 := Bool.eq_false_iff.mpr c7; subst c7; rw [if_neg (show ¬ (false = true) by decide)] at H; simp only [Option.some.injEq, Prod.mk.injEq] at H; obtain ⟨rfl, rfl, rfl, rfl, rfl, rfl, rfl⟩ := H
     go_enter Tryz.func134, Tryz.ntmps134
     try go_wp2_with (first | ((with_reducible refine gate_dst (N := 2) rfl ?_); refine box_event ?hg (N := 2) ?hd (cs := #[.string (⟨#[]⟩ : ByteArray), .string (⟨#[]⟩ : ByteArray), .int .i64 0, .string (⟨#[]⟩ : ByteArray), .int .i64 0, .slice none 0 0]) (t := 29) ?hr ?_; (case hd => rfl); (case hg => rfl); (case hr => exact zG); intro gb110 hg w15 hbox hb; have BK110 := aM hbox; have GW110 := aM (by rw [hg]; exact (below_size zB) : w.heap.size ≤ gb110); replace HB := aM (below_step zB hb); have GE110 := GW110; clear hb hbox hg))
     replace BK110 := aM (bD BK110.out); replace HB := aM (lD HB.out); have p111 : 0 ≤ (0 : Int) := (by omega); have q111 : 0 < (l0.length : Int) := of_decide_eq_true zA; obtain ⟨ad111, e111, hx111_0⟩ := Kd.at_string HR0.out 0 p111 q111; have hw111_0 := hx111_0
     (try rw [show ((0 : Int)).toNat = 0 from rfl] at hw111_0)
     (try rw [show 0 * 1 = 0 from rfl] at hw111_0)
     (try rw [Addr.add_zero'] at hw111_0)
     cases e111; have qi111 : (0 < l0.length) = True := eq_true (by omega)
     (try rw [show ((0 : Int)).toNat = 0 from rfl] at hx111_0)
     (try rw [Addr.add_zero'] at hx111_0)
     replace hx111_0 := (HB.out.cell (World.block_lt_of_cell? w _ hx111_0)).trans hx111_0; replace p111 := eq_true p111; replace q111 := eq_true q111; have p112 : 0 ≤ (1 : Int) := (by omega); have q112 : 1 < (l0.length : Int) := of_decide_eq_true zA; obtain ⟨ad112, e112, hx112_0⟩ := Kd.at_string HR0.out 1 p112 q112; have hw112_0 := hx112_0
     (try rw [show ((1 : Int)).toNat = 1 from rfl] at hw112_0)
     (try rw [show 1 * 1 = 1 from rfl] at hw112_0)
     (try simp only [Nat.reduceMul, Nat.reduceEqDiff, Go.Addr.add, ↓reduceIte] at hw112_0)
     obtain rfl : ad111 = ad112 := (by injection e112)
     (try simp only [show (1 : Int).toNat = 1 from rfl, Nat.reduceMul, Nat.reduceEqDiff, Go.Addr.add, ↓reduceIte] at hx112_0)
     have qi112 : (1 < l0.length) = True := eq_true (by omega)
     (try rw [show ((1 : Int)).toNat = 1 from rfl] at hx112_0)
     replace hx112_0 := (HB.out.cell (World.block_lt_of_cell? w _ hx112_0)).trans hx112_0; replace p112 := eq_true p112; replace q112 := eq_true q112
     refine start_ (n := 10) (S := fun w' => w'.cell? ad111 = some (.string (rdOf ByteArray.empty l0 0)) ∧ w'.cell? ⟨ad111.block, ad111.off + 1, none⟩ = some (.string (rdOf ByteArray.empty l0 1))) (ds := []) (dB 10 0) (by kernel_rfl) rfl rfl ⟨((HB.out.cell (World.block_lt_of_cell? w _ hw111_0)).trans hw111_0), ((HB.out.cell (World.block_lt_of_cell? w _ hw112_0)).trans hw112_0)⟩ (fun hHeld => ?_); refine with_tabW head_request.tab1 head_request.bits1 (fun HT_ HW_ => ?_)
     generalize w15.drew = w16 at BK110 HB hx111_0 hx112_0 hHeld ⊢
     refine pR 0 4 (dB 10 1) HT_.out ?_
     refine pR 1 5 (dB 10 3) HT_.out ?_
     refine pR 3 7 (dB 10 11) HT_.out ?_
     refine pR 4 8 (dB 10 27) HT_.out ?_
     refine tR 2 6 (dB 10 31) HT_.out HW_.out hHeld ?_
     refine pR 6 10 (dB 10 95) HT_.out ?_
     refine tR 5 9 (dB 10 127) HT_.out HW_.out hHeld ?_
     refine one_ (i := 7) (N := none) (dB 10 255) rfl rfl (one_of HT_.out (by kernel_rfl)) (by decide) (fun K hK => ?_)
     have hs17 : w16.cell? ⟨gb110, 0, none⟩ = some (.string (⟨#[]⟩ : ByteArray)) := (blk_cell BK110.out 0).trans rfl; have hfs17 := blk_frozen BK110.out 0
     refine skip_ (w1 := ?_) (by rfl) rfl ?_ ?_
     rotate_left
     ·go_simp; rfl
     refine hK.out _ _ ⟨((cell_far (p := ⟨gb110, _, none⟩) (by first | exact Nat.ne_of_lt (Nat.lt_of_lt_of_le (by have := World.block_lt_of_cell? _ _ hw111_0; first | rwa [add_block] at this | exact this) GW110.out) | (rw [add_block]; exact Nat.ne_of_lt (Nat.lt_of_lt_of_le (by have := World.block_lt_of_cell? _ _ hw111_0; first | rwa [add_block] at this | exact this) GW110.out)) | (show (Addr.add _ _).block ≠ _; rw [add_block]; exact Nat.ne_of_lt (Nat.lt_of_lt_of_le (by have := World.block_lt_of_cell? _ _ hw111_0; first | rwa [add_block] at this | exact this) GW110.out)) | (dsimp only; exact Nat.ne_of_lt (Nat.lt_of_lt_of_le (by have := World.block_lt_of_cell? _ _ hw111_0; first | rwa [add_block] at this | exact this) GW110.out))) _).trans (hHeld.1)), ((cell_far (p := ⟨gb110, _, none⟩) (by first | exact Nat.ne_of_lt (Nat.lt_of_lt_of_le (by have := World.block_lt_of_cell? _ _ hw112_0; first | rwa [add_block] at this | exact this) GW110.out) | (rw [add_block]; exact Nat.ne_of_lt (Nat.lt_of_lt_of_le (by have := World.block_lt_of_cell? _ _ hw112_0; first | rwa [add_block] at this | exact this) GW110.out)) | (show (Addr.add _ _).block ≠ _; rw [add_block]; exact Nat.ne_of_lt (Nat.lt_of_lt_of_le (by have := World.block_lt_of_cell? _ _ hw112_0; first | rwa [add_block] at this | exact this) GW110.out)) | (dsimp only; exact Nat.ne_of_lt (Nat.lt_of_lt_of_le (by have := World.block_lt_of_cell? _ _ hw112_0; first | rwa [add_block] at this | exact this) GW110.out))) _).trans (hHeld.2))⟩ (fun hHeld => ?_)
     clear hK K
     refine pR 8 11 (dB 10 511) HT_.out ?_
     refine one_ (i := 9) (N := none) (dB 10 1023) rfl rfl (one_of HT_.out (by kernel_rfl)) (by decide) (fun K hK => ?_)
     have hs18 : w16.cell? ⟨gb110, 1, none⟩ = some (.string (⟨#[]⟩ : ByteArray)) := (blk_cell BK110.out 1).trans rfl; have hfs18 := blk_frozen BK110.out 1
     refine skip_ (w1 := ?_) (by rfl) rfl ?_ ?_
     rotate_left
     ·go_simp; rfl
     refine hK.out _ _ ⟨((cell_far (p := ⟨gb110, _, none⟩) (by first | exact Nat.ne_of_lt (Nat.lt_of_lt_of_le (by have := World.block_lt_of_cell? _ _ hw111_0; first | rwa [add_block] at this | exact this) GW110.out) | (rw [add_block]; exact Nat.ne_of_lt (Nat.lt_of_lt_of_le (by have := World.block_lt_of_cell? _ _ hw111_0; first | rwa [add_block] at this | exact this) GW110.out)) | (show (Addr.add _ _).block ≠ _; rw [add_block]; exact Nat.ne_of_lt (Nat.lt_of_lt_of_le (by have := World.block_lt_of_cell? _ _ hw111_0; first | rwa [add_block] at this | exact this) GW110.out)) | (dsimp only; exact Nat.ne_of_lt (Nat.lt_of_lt_of_le (by have := World.block_lt_of_cell? _ _ hw111_0; first | rwa [add_block] at this | exact this) GW110.out))) _).trans (hHeld.1)), ((cell_far (p := ⟨gb110, _, none⟩) (by first | exact Nat.ne_of_lt (Nat.lt_of_lt_of_le (by have := World.block_lt_of_cell? _ _ hw112_0; first | rwa [add_block] at this | exact this) GW110.out) | (rw [add_block]; exact Nat.ne_of_lt (Nat.lt_of_lt_of_le (by have := World.block_lt_of_cell? _ _ hw112_0; first | rwa [add_block] at this | exact this) GW110.out)) | (show (Addr.add _ _).block ≠ _; rw [add_block]; exact Nat.ne_of_lt (Nat.lt_of_lt_of_le (by have := World.block_lt_of_cell? _ _ hw112_0; first | rwa [add_block] at this | exact this) GW110.out)) | (dsimp only; exact Nat.ne_of_lt (Nat.lt_of_lt_of_le (by have := World.block_lt_of_cell? _ _ hw112_0; first | rwa [add_block] at this | exact this) GW110.out))) _).trans (hHeld.2))⟩ (fun hHeld => ?_)
     clear hK K
     refine done_ (done_of HT_.out (by kernel_rfl)) ?_
     obtain ⟨_, _, _, _, _, _, _, _, _, _, _, _⟩ := cz6 BK110.out
     try go_wp2_with (first | ((with_reducible refine gate_callee (f := 66) rfl ?_); refine goesL_ (some 14) rfl rfl Tryz.func66 (by kernel_rfl) rfl #[.string (rdOf ByteArray.empty l0 0)] rfl zL ?_; (with_reducible refine (field_Name.calls (rdOf ByteArray.empty l0 0) true _ A4.out).mono ?_); rintro e w' ⟨rfl, ⟨nd, rfl⟩⟩; refine ⟨_, rfl, ?_⟩) | (go_at_call 71; (with_reducible refine (head_target.calls k (rdOf ByteArray.empty l0 1) false _ A6.out).mono ?_); rintro e w' ⟨rfl, ⟨nd, rfl⟩⟩))
     refine bodyPost_ret (results_ct rfl _ _ gb110 29 #[.string (rdOf ByteArray.empty l0 0), .string (rdOf ByteArray.empty l0 1), .int .i64 0, .string (⟨#[]⟩ : ByteArray), .int .i64 0, .slice none 0 0] (0, 0) _ rfl (zQ6 BK110.out) Tryz.underlying29 rfl (by kernel_rfl)) rfl ?_
     exact ⟨_, zE, by first | exact Kd.R_nil _ _ _ _ _ | exact Kd.N_nil _ _ _ _ _ | exact Kd.V_nil _ _ _ _ _ | exact Kd.Q_nil _ _ _ _ _ | exact Kd.S_nil _ _ _ _ _, zB⟩
   ·replace c5 := Bool.eq_false_iff.mpr c5; subst c5; rw [if_neg (show ¬ (false = true) by decide)] at H; simp only [Option.some.injEq, Prod.mk.injEq] at H; obtain ⟨rfl, rfl, rfl, rfl, rfl, rfl, rfl⟩ := H
    go_enter Tryz.func134, Tryz.ntmps134
    try go_wp2_with (first | ((with_reducible refine gate_dst (N := 2) rfl ?_); refine box_event ?hg (N := 2) ?hd (cs := #[.string (⟨#[]⟩ : ByteArray), .string (⟨#[]⟩ : ByteArray), .int .i64 0, .string (⟨#[]⟩ : ByteArray), .int .i64 0, .slice none 0 0]) (t := 29) ?hr ?_; (case hd => rfl); (case hg => rfl); (case hr => exact zG); intro gb110 hg w20 hbox hb; have BK110 := aM hbox; have GW110 := aM (by rw [hg]; exact (below_size zB) : w.heap.size ≤ gb110); replace HB := aM (below_step zB hb); have GE110 := GW110; clear hb hbox hg))
    replace BK110 := aM (bD BK110.out); replace HB := aM (lD HB.out); have p111 : 0 ≤ (0 : Int) := (by omega); have q111 : 0 < (l0.length : Int) := of_decide_eq_true zA; obtain ⟨ad111, e111, hx111_0⟩ := Kd.at_string HR0.out 0 p111 q111; have hw111_0 := hx111_0
    (try rw [show ((0 : Int)).toNat = 0 from rfl] at hw111_0)
    (try rw [show 0 * 1 = 0 from rfl] at hw111_0)
    (try rw [Addr.add_zero'] at hw111_0)
    cases e111; have qi111 : (0 < l0.length) = True := eq_true (by omega)
    (try rw [show ((0 : Int)).toNat = 0 from rfl] at hx111_0)
    (try rw [Addr.add_zero'] at hx111_0)
    replace hx111_0 := (HB.out.cell (World.block_lt_of_cell? w _ hx111_0)).trans hx111_0; replace p111 := eq_true p111; replace q111 := eq_true q111; have p112 : 0 ≤ (1 : Int) := (by omega); have q112 : 1 < (l0.length : Int) := of_decide_eq_true zA; obtain ⟨ad112, e112, hx112_0⟩ := Kd.at_string HR0.out 1 p112 q112; have hw112_0 := hx112_0
    (try rw [show ((1 : Int)).toNat = 1 from rfl] at hw112_0)
    (try rw [show 1 * 1 = 1 from rfl] at hw112_0)
    (try simp only [Nat.reduceMul, Nat.reduceEqDiff, Go.Addr.add, ↓reduceIte] at hw112_0)
    obtain rfl : ad111 = ad112 := (by injection e112)
    (try simp only [show (1 : Int).toNat = 1 from rfl, Nat.reduceMul, Nat.reduceEqDiff, Go.Addr.add, ↓reduceIte] at hx112_0)
    have qi112 : (1 < l0.length) = True := eq_true (by omega)
    (try rw [show ((1 : Int)).toNat = 1 from rfl] at hx112_0)
    replace hx112_0 := (HB.out.cell (World.block_lt_of_cell? w _ hx112_0)).trans hx112_0; replace p112 := eq_true p112; replace q112 := eq_true q112
    refine start_ (n := 10) (S := fun w' => w'.cell? ad111 = some (.string (rdOf ByteArray.empty l0 0)) ∧ w'.cell? ⟨ad111.block, ad111.off + 1, none⟩ = some (.string (rdOf ByteArray.empty l0 1))) (ds := []) (dB 10 0) (by kernel_rfl) rfl rfl ⟨((HB.out.cell (World.block_lt_of_cell? w _ hw111_0)).trans hw111_0), ((HB.out.cell (World.block_lt_of_cell? w _ hw112_0)).trans hw112_0)⟩ (fun hHeld => ?_); refine with_tabW head_request.tab1 head_request.bits1 (fun HT_ HW_ => ?_)
    generalize w20.drew = w21 at BK110 HB hx111_0 hx112_0 hHeld ⊢
    refine pR 0 4 (dB 10 1) HT_.out ?_
    refine pR 1 5 (dB 10 3) HT_.out ?_
    refine pR 3 7 (dB 10 11) HT_.out ?_
    refine pR 4 8 (dB 10 27) HT_.out ?_
    refine tR 2 6 (dB 10 31) HT_.out HW_.out hHeld ?_
    refine pR 6 10 (dB 10 95) HT_.out ?_
    refine tR 5 9 (dB 10 127) HT_.out HW_.out hHeld ?_
    refine one_ (i := 7) (N := none) (dB 10 255) rfl rfl (one_of HT_.out (by kernel_rfl)) (by decide) (fun K hK => ?_)
    have hs22 : w21.cell? ⟨gb110, 0, none⟩ = some (.string (⟨#[]⟩ : ByteArray)) := (blk_cell BK110.out 0).trans rfl; have hfs22 := blk_frozen BK110.out 0
    refine skip_ (w1 := ?_) (by rfl) rfl ?_ ?_
    rotate_left
    ·go_simp; rfl
    refine hK.out _ _ ⟨((cell_far (p := ⟨gb110, _, none⟩) (by first | exact Nat.ne_of_lt (Nat.lt_of_lt_of_le (by have := World.block_lt_of_cell? _ _ hw111_0; first | rwa [add_block] at this | exact this) GW110.out) | (rw [add_block]; exact Nat.ne_of_lt (Nat.lt_of_lt_of_le (by have := World.block_lt_of_cell? _ _ hw111_0; first | rwa [add_block] at this | exact this) GW110.out)) | (show (Addr.add _ _).block ≠ _; rw [add_block]; exact Nat.ne_of_lt (Nat.lt_of_lt_of_le (by have := World.block_lt_of_cell? _ _ hw111_0; first | rwa [add_block] at this | exact this) GW110.out)) | (dsimp only; exact Nat.ne_of_lt (Nat.lt_of_lt_of_le (by have := World.block_lt_of_cell? _ _ hw111_0; first | rwa [add_block] at this | exact this) GW110.out))) _).trans (hHeld.1)), ((cell_far (p := ⟨gb110, _, none⟩) (by first | exact Nat.ne_of_lt (Nat.lt_of_lt_of_le (by have := World.block_lt_of_cell? _ _ hw112_0; first | rwa [add_block] at this | exact this) GW110.out) | (rw [add_block]; exact Nat.ne_of_lt (Nat.lt_of_lt_of_le (by have := World.block_lt_of_cell? _ _ hw112_0; first | rwa [add_block] at this | exact this) GW110.out)) | (show (Addr.add _ _).block ≠ _; rw [add_block]; exact Nat.ne_of_lt (Nat.lt_of_lt_of_le (by have := World.block_lt_of_cell? _ _ hw112_0; first | rwa [add_block] at this | exact this) GW110.out)) | (dsimp only; exact Nat.ne_of_lt (Nat.lt_of_lt_of_le (by have := World.block_lt_of_cell? _ _ hw112_0; first | rwa [add_block] at this | exact this) GW110.out))) _).trans (hHeld.2))⟩ (fun hHeld => ?_)
    clear hK K
    refine pR 8 11 (dB 10 511) HT_.out ?_
    refine one_ (i := 9) (N := none) (dB 10 1023) rfl rfl (one_of HT_.out (by kernel_rfl)) (by decide) (fun K hK => ?_)
    have hs23 : w21.cell? ⟨gb110, 1, none⟩ = some (.string (⟨#[]⟩ : ByteArray)) := (blk_cell BK110.out 1).trans rfl; have hfs23 := blk_frozen BK110.out 1
    refine skip_ (w1 := ?_) (by rfl) rfl ?_ ?_
    rotate_left
    ·go_simp; rfl
    refine hK.out _ _ ⟨((cell_far (p := ⟨gb110, _, none⟩) (by first | exact Nat.ne_of_lt (Nat.lt_of_lt_of_le (by have := World.block_lt_of_cell? _ _ hw111_0; first | rwa [add_block] at this | exact this) GW110.out) | (rw [add_block]; exact Nat.ne_of_lt (Nat.lt_of_lt_of_le (by have := World.block_lt_of_cell? _ _ hw111_0; first | rwa [add_block] at this | exact this) GW110.out)) | (show (Addr.add _ _).block ≠ _; rw [add_block]; exact Nat.ne_of_lt (Nat.lt_of_lt_of_le (by have := World.block_lt_of_cell? _ _ hw111_0; first | rwa [add_block] at this | exact this) GW110.out)) | (dsimp only; exact Nat.ne_of_lt (Nat.lt_of_lt_of_le (by have := World.block_lt_of_cell? _ _ hw111_0; first | rwa [add_block] at this | exact this) GW110.out))) _).trans (hHeld.1)), ((cell_far (p := ⟨gb110, _, none⟩) (by first | exact Nat.ne_of_lt (Nat.lt_of_lt_of_le (by have := World.block_lt_of_cell? _ _ hw112_0; first | rwa [add_block] at this | exact this) GW110.out) | (rw [add_block]; exact Nat.ne_of_lt (Nat.lt_of_lt_of_le (by have := World.block_lt_of_cell? _ _ hw112_0; first | rwa [add_block] at this | exact this) GW110.out)) | (show (Addr.add _ _).block ≠ _; rw [add_block]; exact Nat.ne_of_lt (Nat.lt_of_lt_of_le (by have := World.block_lt_of_cell? _ _ hw112_0; first | rwa [add_block] at this | exact this) GW110.out)) | (dsimp only; exact Nat.ne_of_lt (Nat.lt_of_lt_of_le (by have := World.block_lt_of_cell? _ _ hw112_0; first | rwa [add_block] at this | exact this) GW110.out))) _).trans (hHeld.2))⟩ (fun hHeld => ?_)
    clear hK K
    refine done_ (done_of HT_.out (by kernel_rfl)) ?_
    obtain ⟨_, _, _, _, _, _, _, _, _, _, _, _⟩ := cz6 BK110.out
    try go_wp2_with (first | ((with_reducible refine gate_callee (f := 66) rfl ?_); refine goesL_ (some 14) rfl rfl Tryz.func66 (by kernel_rfl) rfl #[.string (rdOf ByteArray.empty l0 0)] rfl zL ?_; (with_reducible refine (field_Name.calls (rdOf ByteArray.empty l0 0) false _ A4.out).mono ?_); rintro e w' ⟨rfl, ⟨nd, rfl⟩⟩; refine ⟨_, rfl, ?_⟩))
    refine bodyPost_ret (results_ct rfl _ _ gb110 29 #[.string (rdOf ByteArray.empty l0 0), .string (rdOf ByteArray.empty l0 1), .int .i64 0, .string (⟨#[]⟩ : ByteArray), .int .i64 0, .slice none 0 0] (0, 0) _ rfl (zQ6 BK110.out) Tryz.underlying29 rfl (by kernel_rfl)) rfl ?_
    exact ⟨_, zE, by first | exact Kd.R_nil _ _ _ _ _ | exact Kd.N_nil _ _ _ _ _ | exact Kd.V_nil _ _ _ _ _ | exact Kd.Q_nil _ _ _ _ _ | exact Kd.S_nil _ _ _ _ _, zB⟩
  ·exact zf c3 H
 ·exact zf c2 H

def head_status.f (a0 : Int) : Option (Bool) := if a0 ≥ 100 then (some (decide (a0 ≤ 599))) else (some false)
set_option maxHeartbeats 8000000 in
set_option maxRecDepth 100000 in
theorem head_status.calls (a0 : Int) (r : Bool) (w : World) (h : head_status.f a0 = some r) :
  Calls Tryz.prog 69 #[.int .i64 a0] w fun e w' => e = .returned (.bool r) ∧ Drawn0 w w' := by
 have H : (if a0 ≥ 100 then (some (decide (a0 ≤ 599))) else (some false)) = some r := h; clear h; by_cases c2 : a0 ≥ 100
 ·rw [if_pos c2] at H; have c2b0 := decide_eq_true c2; clear c2; obtain rfl := Option.some.inj H
  go_enter Tryz.func69, Tryz.ntmps69
  go_wp2
  go_ret
  exact ⟨zR, zD⟩
 ·rw [if_neg c2] at H; have c2b0 := decide_eq_false c2; clear c2; obtain rfl := Option.some.inj H
  go_enter Tryz.func69, Tryz.ntmps69
  go_wp2
  go_ret
  exact ⟨zR, zD⟩

def head_status.Pure : Prop := ∀ (a0 : Int), (Lit.int .i64 a0).wf = true → head_status.f a0 = some true
theorem head_status.walk (P : head_status.Pure) (a0 : Int) (w : World) (w0 : (Lit.int .i64 a0).wf = true) :
  Calls Tryz.prog 69 #[.int .i64 a0] w fun e w' => e = .returned (.bool true) ∧ Below w.heap.size w w' := by
 have h := P a0 w0
 refine (head_status.calls a0 true w h).mono ?_
 rintro e w' ⟨rfl, hd⟩
 exact ⟨rfl, hd.below⟩

def head_reason.f (k : Nat) (a0 : ByteArray) : Option (Bool) := if (a0.size : Int) ≤ 200 then ((head_within.f k a0 32 true).bind fun t118 => (some t118)) else (some false)
theorem head_reason.mono : ∀ a0 k, LeO (head_reason.f k a0) (head_reason.f (k + 1) a0) := by
 intro a0 k
 unfold head_reason.f; have m0 := @head_within.mono; exact zM
set_option maxHeartbeats 8000000 in
set_option maxRecDepth 100000 in
theorem head_reason.calls (k : Nat) (a0 : ByteArray) (r : Bool) (w : World) (h : head_reason.f k a0 = some r) :
  Calls Tryz.prog 70 #[.string a0] w fun e w' => e = .returned (.bool r) ∧ Drawn0 w w' := by
 have H : (if (a0.size : Int) ≤ 200 then ((head_within.f k a0 32 true).bind fun t118 => (some t118)) else (some false)) = some r := h; clear h; by_cases c2 : (a0.size : Int) ≤ 200
 ·rw [if_pos c2] at H; have c2b0 := decide_eq_true c2; have c2b1 : decide (a0.size ≤ 200) = true := decide_eq_true (by omega); clear c2; replace H := Option.bind_eq_some_iff.mp H; obtain ⟨t118, A30, H⟩ := H; replace H : (some t118) = some r := H; have A3 := aM A30; clear A30; obtain rfl := Option.some.inj H
  go_enter Tryz.func70, Tryz.ntmps70
  go_wp2_with (first | (go_at_call 95; (with_reducible refine (head_within.calls k a0 32 true t118 _ A3.out).mono ?_); rintro e w' ⟨rfl, ⟨nd, rfl⟩⟩))
  go_ret
  exact ⟨zR, zD⟩
 ·rw [if_neg c2] at H; have c2b0 := decide_eq_false c2; have c2b1 : decide (a0.size ≤ 200) = false := decide_eq_false (by omega); clear c2; obtain rfl := Option.some.inj H
  go_enter Tryz.func70, Tryz.ntmps70
  go_wp2
  go_ret
  exact ⟨zR, zD⟩

def head_reason.Pure : Prop := ∀ (a0 : ByteArray), a0.size ≤ 140737488351232 → ∃ k, head_reason.f k a0 = some true
theorem head_reason.walk (P : head_reason.Pure) (a0 : ByteArray) (w : World) (w0 : a0.size ≤ 140737488351232) :
  Calls Tryz.prog 70 #[.string a0] w fun e w' => e = .returned (.bool true) ∧ Below w.heap.size w w' := by
 obtain ⟨k, h⟩ := P a0 w0
 refine (head_reason.calls k a0 true w h).mono ?_
 rintro e w' ⟨rfl, hd⟩
 exact ⟨rfl, hd.below⟩

end Go.Proofs.YtapeodbgobkjeaaGreatDoor.P
