/- The contract of forward.strip in the form of the printed ones: fields that are sent on, but for some names. -/
import Derived.Test.YthmpfncidpjnjaaDoorHZB
import Derived.Test.YthmpfncidpjnjaaDoorPx3
import Derived.Test.YthmpfncidpjnjaaDoorPx2
namespace Go.Proofs.YthmpfncidpjnjaaDoor.P
open Go.RowKit Go.Shelf Go.Lib Go.Proofs.YthmpfncidpjnjaaDoorW.PrintWords Go.Proofs.YthmpfncidpjnjaaDoorW.PrintLast Go.Proofs.YthmpfncidpjnjaaDoorW.PrintMore
/-- 'Content-Length'. -/
def clB : ByteArray := ⟨#[67, 111, 110, 116, 101, 110, 116, 45, 76, 101, 110, 103, 116, 104]⟩
def forward_strip.f (k : Nat) (l0 : List S28) (l1 : List ByteArray) : Option (List S28) :=
  (forward_Hops.f k l0).bind fun h => (slices_Concat_string_string.f k [h, l1, [clB]]).bind fun c => field_Drop.f l0 c
theorem forward_strip.mono : ∀ l0 l1 k, LeO (forward_strip.f k l0 l1) (forward_strip.f (k + 1) l0 l1) := by
  intro l0 l1 k
  unfold forward_strip.f
  exact .bind (forward_Hops.mono _ _) fun h => .bind (slices_Concat_string_string.mono _ _) fun c => .refl _
theorem C_three (w : World) (g : Nat) (A0 A1 A2 : Option Addr) (c0 c1 c2 T : Nat) (l0 l1 l2 : List ByteArray) (hg : w.heap[g]? = some (.cells #[.slice A0 l0.length c0, .slice A1 l1.length c1, .slice A2 l2.length c2] T (0, 0)))
    (h0 : Kd.C Kd.string w A0 l0.length l0) (k0 : l0.length ≤ c0) (h1 : Kd.C Kd.string w A1 l1.length l1) (k1 : l1.length ≤ c1) (h2 : Kd.C Kd.string w A2 l2.length l2) (k2 : l2.length ≤ c2) :
    Kd.C (Kd.slice 9 Kd.string) w (some ⟨g, 0, none⟩) 3 [l0, l1, l2] := by
  have hc : ∀ i u, (#[.slice A0 l0.length c0, .slice A1 l1.length c1, .slice A2 l2.length c2] : Array Value)[i]? = some u → w.cell? ⟨g, i, none⟩ = some u := fun i u hu => by
    unfold World.cell?
    rw [hg]
    exact hu
  refine ⟨rfl, by decide, fun _ => ⟨_, rfl, fun j p hj => ?_⟩⟩
  match j, hj with
  | 0, hj =>
    obtain rfl : l0 = p := by simpa using hj
    refine ⟨[.slice A0 l0.length c0], rfl, ⟨A0, c0, rfl, k0, h0⟩, fun i u hu => ?_⟩
    match i, hu with
    | 0, hu => exact hc 0 u (by simpa using hu)
  | 1, hj =>
    obtain rfl : l1 = p := by simpa using hj
    refine ⟨[.slice A1 l1.length c1], rfl, ⟨A1, c1, rfl, k1, h1⟩, fun i u hu => ?_⟩
    match i, hu with
    | 0, hu => exact hc 1 u (by simpa using hu)
  | 2, hj =>
    obtain rfl : l2 = p := by simpa using hj
    refine ⟨[.slice A2 l2.length c2], rfl, ⟨A2, c2, rfl, k2, h2⟩, fun i u hu => ?_⟩
    match i, hu with
    | 0, hu => exact hc 2 u (by simpa using hu)
  | _ + 3, hj => simp at hj
theorem C_one (w : World) (x : ByteArray) : Kd.C Kd.string (w.alloc (.cells #[.string x] 9)) (some ⟨w.heap.size, 0, none⟩) 1 [x] := by
  refine ⟨rfl, by decide, fun _ => ⟨_, rfl, fun j p hj => ?_⟩⟩
  match j, hj with
  | 0, hj =>
    obtain rfl : x = p := by simpa using hj
    refine ⟨[.string x], rfl, rfl, fun i u hu => ?_⟩
    match i, hu with
    | 0, hu =>
      have h := heap_alloc_new w (.cells #[.string x] 9)
      show (w.alloc (.cells #[.string x] 9)).cell? ⟨w.heap.size, 0, none⟩ = some u
      unfold World.cell?
      rw [h]
      simpa using hu
  | _ + 1, hj => simp at hj
set_option maxHeartbeats 1600000 in
set_option maxRecDepth 100000 in
theorem forward_strip.calls (k : Nat) (A0 : Option Addr) (c0 : Nat) (l0 : List (S28)) (A1 : Option Addr) (c1 : Nat) (l1 : List ByteArray) (r : List (S28)) (w : World) (hr0 : Kd.C k28 w A0 l0.length l0) (hc0 : l0.length ≤ c0) (hr1 : Kd.C Kd.string w A1 l1.length l1) (hc1 : l1.length ≤ c1) (h : forward_strip.f k l0 l1 = some r) :
    Calls Tryd.prog 27 #[.slice A0 l0.length c0, .slice A1 l1.length c1] w fun e w' => ∃ v0_ : Value, e = .returned (v0_) ∧ Kd.R k28 28 w' w.heap.size (fun _ => True) v0_ r ∧ Below w.heap.size w w' := by
  unfold forward_strip.f at h
  obtain ⟨hs, h1, h⟩ := Option.bind_eq_some_iff.1 h
  obtain ⟨cs, h2, h3⟩ := Option.bind_eq_some_iff.1 h
  have K1 := Lib.hid (forward_Hops.calls k A0 c0 l0 hs w hr0 hc0 h1)
  have HR0 := Lib.hid hr0
  have HR1 := Lib.hid hr1
  have HC0 := Lib.hid hc0
  have HC1 := Lib.hid hc1
  have H2 := Lib.hid h2
  have H3 := Lib.hid h3
  clear hr0 hr1 hc0 hc1 h h1 h2 h3
  go_enter Tryd.func27, Tryd.ntmps27
  go_wp2_with fail
  refine K1.out.mono ?_; rintro e w1 ⟨v, rfl, hR1, hB1⟩
  obtain ⟨A, c, rfl, hAc, hA⟩ := Kd.R_reads hR1
  have HA := Lib.hid hA
  have HAc := Lib.hid hAc
  have HB1 := Lib.hid hB1
  clear hR1 hA hAc hB1
  go_wp2_with fail
  have hb2 : Below w1.heap.size w1 ((w1.alloc (.cells #[.string clB] 9)).alloc (.cells #[.slice A hs.length c, .slice A1 l1.length c1, .slice (some ⟨w1.heap.size, 0, none⟩) 1 1] 38)) := below_alloc (below_alloc (Below.refl _ _) _) _
  have hb3 : Below w.heap.size w ((w1.alloc (.cells #[.string clB] 9)).alloc (.cells #[.slice A hs.length c, .slice A1 l1.length c1, .slice (some ⟨w1.heap.size, 0, none⟩) 1 1] 38)) := HB1.out.trans (hb2.mono HB1.out.size)
  have hC := C_three ((w1.alloc (.cells #[.string clB] 9)).alloc (.cells #[.slice A hs.length c, .slice A1 l1.length c1, .slice (some ⟨w1.heap.size, 0, none⟩) 1 1] 38)) (w1.heap.size + 1) A A1 (some ⟨w1.heap.size, 0, none⟩) c c1 1 38 hs l1 [clB]
    (by have := heap_alloc_new (w1.alloc (.cells #[.string clB] 9)) (.cells #[.slice A hs.length c, .slice A1 l1.length c1, .slice (some ⟨w1.heap.size, 0, none⟩) 1 1] 38); rw [World.size_alloc] at this; exact this)
    (Kd.C_below HA.out hb2) HAc.out (Kd.C_below HR1.out hb3) HC1.out (Kd.C_alloc (C_one w1 clB) _) (Nat.le_refl 1)
  refine (slices_Concat_string_string.calls k _ 3 [hs, l1, [clB]] cs _ hC (Nat.le_refl 3) H2.out).mono ?_; rintro e w2 ⟨v2, rfl, hR2, hB2⟩
  obtain ⟨A2, c2, rfl, hAc2, hA2⟩ := Kd.R_reads hR2
  have HA2 := Lib.hid hA2
  have HAc2 := Lib.hid hAc2
  have HB2 := Lib.hid (hb3.trans (hB2.mono hb3.size))
  clear hR2 hA2 hAc2 hB2 hb2 hb3 hC
  go_wp2_with fail
  refine (field_Drop.calls A0 c0 l0 A2 c2 cs r _ (Kd.C_below HR0.out HB2.out) HC0.out HA2.out HAc2.out H3.out).mono ?_; rintro e w3 ⟨v3, rfl, hR3, hB3⟩
  have HR3 := Lib.hid hR3
  have HB3 := Lib.hid hB3
  clear hR3 hB3
  go_wp2_with fail
  go_ret
  exact ⟨_, rfl, Kd.R_lower HR3.out HB2.out.size, HB2.out.trans (HB3.out.mono HB2.out.size)⟩
end Go.Proofs.YthmpfncidpjnjaaDoor.P
