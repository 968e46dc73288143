/- The contract of num.Text at base 16: the digits of a number. -/
import Derived.Test.YthemlbefkdmegaaDoorHU2
import Derived.Test.YthemlbefkdmegaaDoorPx0
import Derived.Test.YthemlbefkdmegaaDoorPx2
import Derived.Lib.SlBytesRow
import Derived.Lib.Builder
import Derived.Laws.Bits64b
import Derived.Deep.RegionHeld3
namespace Go.Proofs.YthemlbefkdmegaaDoor.H
open Go.RowKit Go.Shelf Go Go.Lib Go.Proofs.YthemlbefkdmegaaDoorW.PrintWords
/-- A digit. -/
def dg (d : Nat) : UInt8 := if d < 10 then UInt8.ofNat (48 + d) else UInt8.ofNat (87 + d)
/-- The sixteen-digits of a number. -/
def hexL (n : Nat) : List UInt8 := if _h : n < 16 then [dg n] else hexL (n / 16) ++ [dg (n % 16)]
theorem hexL_one {n : Nat} (h : n < 16) : hexL n = [dg n] := by rw [hexL, dif_pos h]
theorem hexL_more {n : Nat} (h : ¬ n < 16) : hexL n = hexL (n / 16) ++ [dg (n % 16)] := by rw [hexL, dif_neg h]
theorem hexL_length : ∀ (k n : Nat), n < 16 ^ (k + 1) → (hexL n).length ≤ k + 1
  | 0, n, h => by rw [hexL_one (by simpa using h)]; simp
  | k + 1, n, h => by
    by_cases hn : n < 16
    · rw [hexL_one hn]; simp
    · rw [hexL_more hn, List.length_append]
      have := hexL_length k (n / 16) (by rw [Nat.pow_succ] at h; omega)
      simp
      omega
theorem hexL_ne (n : Nat) : hexL n ≠ [] := by
  by_cases hn : n < 16
  · rw [hexL_one hn]; simp
  · rw [hexL_more hn]; simp
/-- The array of digits: what has been written stands at its end. -/
def cells65 (ds : List UInt8) : Array Value := (List.replicate (65 - ds.length) (Value.int .u8 0) ++ ds.map fun b => Value.int .u8 (b.toNat : Int)).toArray
theorem cells65_set (ds : List UInt8) (d : UInt8) (h : ds.length ≤ 64) : (cells65 ds).setIfInBounds (64 - ds.length) (.int .u8 (d.toNat : Int)) = cells65 (d :: ds) := by
  unfold cells65
  rw [List.setIfInBounds_toArray, List.set_append_left _ _ (by simp; omega)]
  congr 1
  obtain ⟨k, hk⟩ : ∃ k, ds.length = 64 - k ∧ k ≤ 64 := ⟨64 - ds.length, by omega, by omega⟩
  have e1 : 65 - ds.length = k + 1 := by omega
  have e2 : 64 - ds.length = k := by omega
  have e3 : 65 - (d :: ds).length = k := by simp; omega
  rw [e1, e2, e3, List.replicate_succ', List.set_append_right _ _ (by simp)]
  simp
theorem cells65_at (ds : List UInt8) (j : Nat) (h : ds.length = 64 - j) (hj : j ≤ 64) : (cells65 ds)[j]? = some (.int .u8 0) := by
  unfold cells65
  rw [List.getElem?_toArray, List.getElem?_append_left (by simp; omega), List.getElem?_replicate, if_pos (by omega)]
def digB : ByteArray := ⟨#[48, 49, 50, 51, 52, 53, 54, 55, 56, 57, 97, 98, 99, 100, 101, 102, 103, 104, 105, 106, 107, 108, 109, 110, 111, 112, 113, 114, 115, 116, 117, 118, 119, 120, 121, 122]⟩
theorem digB_at (d : Nat) (h : d < 16) (h2 : d < digB.size) : digB[d]'h2 = dg d := by
  have a : ((List.range 16).all fun d => digB.data.toList.getD d 0 == dg d) = true := by kernel_rfl
  rw [List.all_eq_true] at a
  have := a d (List.mem_range.2 h)
  rw [beq_iff_eq] at this
  rw [← this, List.getD_eq_getElem?_getD, List.getElem?_eq_getElem (by simpa using h2)]
  rfl
theorem slice65 (W : World) (b j : Nat) (h : j < 65) : (Instr.sliceAt 95 (.pointer (some ⟨b, 0, none⟩)) (some (.int .i64 (j : Int))) none none).run Tryd.prog W = .ok (.slice (some ⟨b, j, none⟩) (65 - j) (65 - j)) W := by
  have ht : Tryd.prog.underlying 95 = some (.array (Tryd.prog.arrayLen 95) (Tryd.prog.elem 95)) := by kernel_rfl
  have hal : Tryd.prog.arrayLen 95 = 65 := by kernel_rfl
  have hel : Tryd.prog.elem 95 = 5 := by kernel_rfl
  rw [run_sliceAt_array_l W 95 ⟨b, 0, none⟩ ht .i64 (j : Int) (by omega) (by rw [hal]; omega), hel, Tryd.sizeOf5]
  have ha : (⟨b, 0, none⟩ : Addr).add j = ⟨b, j, none⟩ := by unfold Addr.add; split <;> simp_all
  simp only [Result.andThen, slicedAt, hal, Int.toNat_natCast, Nat.mul_one, ha]
  rw [if_neg (by omega)]
theorem bytes65 (W : World) (b j : Nat) (ds : List UInt8) (hk : W.heap[b]? = some (.cells (cells65 ds) 95 (0, 0))) (hj : j + ds.length = 65) :
    (convert 26 9 (.slice (some ⟨b, j, none⟩) (65 - j) (65 - j))).run Tryd.prog W = .ok (.string ⟨ds.toArray⟩) W := by
  have hs : (⟨ds.toArray⟩ : ByteArray).size = 65 - j := by show ds.toArray.size = _; rw [List.size_toArray]; omega
  have := Lib.run_convert_whole W 26 5 9 Tryd.underlying26 Tryd.underlying5 Tryd.underlying9 b j ⟨ds.toArray⟩ (fun i hi => by
    rw [cell_of_heap hk]
    unfold cells65
    have hi' : i < ds.length := by rw [hs] at hi; omega
    rw [List.getElem?_toArray, List.getElem?_append_right (by simp; omega), List.length_replicate, List.getElem?_map, show j + i - (65 - ds.length) = i by omega, List.getElem?_eq_getElem hi']
    rfl) (65 - j)
  rw [hs] at this
  exact this
theorem db_cell (w : World) (hG : GlobOk w) : w.cell? ⟨2, 15, none⟩ = some (.int .u8 4) := by
  have h := hG
  unfold GlobOk Lib.TabIs World.var? at h
  rw [show Tryd.prog.globalNamed "math/bits.deBruijn64tab" = some 2 by kernel_rfl] at h
  simp only [Option.bind_some] at h
  unfold World.cell?
  split at h
  · rename_i cs t fr hb
    rw [hb]
    simp only [Option.some.injEq] at h
    rw [h]
    rfl
  · cases h
theorem TZ64 (w : World) (hG : GlobOk w) : Calls Tryd.prog 68 #[.int .u64 16] w fun e w' => e = .returned (.int .i64 4) ∧ w' = w := by
  have hc := db_cell w hG
  have key : IntKind.u64.wrap (bits BinOp.and IntKind.u64 16 (IntKind.u64.wrap (-16)) * 285870213051353865) / 288230376151711744 = 15 := by kernel_rfl
  go_enter Tryd.func68, Tryd.ntmps68
  go_wp2_with (simp only [key])
  go_ret
  exact ⟨rfl, rfl⟩
theorem TZ16 (w : World) (hG : GlobOk w) : Calls Tryd.prog 61 #[.int .u64 16] w fun e w' => e = .returned (.int .i64 4) ∧ w' = w := by
  go_enter Tryd.func61, Tryd.ntmps61
  go_wp2_with fail
  refine (TZ64 w hG).mono ?_; rintro e w' ⟨rfl, rfl⟩
  go_wp2_with fail
  go_ret
  exact ⟨rfl, rfl⟩
theorem pow16 (w : World) : Calls Tryd.prog 60 #[.int .i64 16] w fun e w' => e = .returned (.bool true) ∧ w' = w := by
  go_enter Tryd.func60, Tryd.ntmps60
  go_wp2_with fail
  go_ret
  exact ⟨rfl, rfl⟩
set_option maxHeartbeats 1600000 in
set_option maxRecDepth 100000 in
theorem bits_any (n : Nat) (hn : n ≤ 9007199254740992) (w : World) (hG : GlobOk w) :
    Calls Tryd.prog 51 #[.slice none 0 0, .int .u64 (n : Int), .int .i64 16, .bool false, .bool false] w fun e w' => e = .returned (.tuple #[.slice none 0 0, .string ⟨(hexL n).toArray⟩]) ∧ Below w.heap.size w w' := by
  have HG := Lib.hid hG
  have HN := Lib.hid hn
  clear hG hn
  go_enter Tryd.func51, Tryd.ntmps51
  go_wp2_with fail
  have hz : Tryd.zeroCells95 = cells65 [] := by kernel_rfl
  rw [hz]
  clear hz
  have q0 := heap_alloc_new w (.cells (cells65 []) 95)
  have hb0 := below_alloc (Below.refl w.heap.size w) (.cells (cells65 []) 95)
  obtain ⟨b, hb⟩ : ∃ b, b = w.heap.size := ⟨_, rfl⟩
  obtain ⟨W1, hW1⟩ : ∃ W1, W1 = w.alloc (.cells (cells65 []) 95) := ⟨_, rfl⟩
  rw [← hW1] at q0 hb0 ⊢
  simp only [← hb] at q0 hb0 ⊢
  have HBB := Lib.hid hb
  have Q0 := Lib.hid q0
  have HB0 := Lib.hid hb0
  have HG1 := Lib.hid (HG.out.below (by rw [← hb]; exact hb0))
  clear hW1 hb q0 hb0
  refine (pow16 W1).mono ?_; rintro e w2 ⟨rfl, rfl⟩
  go_wp2_with fail
  refine (TZ16 w2 HG1.out).mono ?_; rintro e w3 ⟨rfl, rfl⟩
  go_wp2_with fail
  go_loopw [1, 13] (fun u i wr => ∃ (m j : Nat) (ds : List UInt8), u = .int .u64 (m : Int) ∧ i = .int .i64 ((j : Int) + 1) ∧ Hid (ds.length = 64 - j ∧ j ≤ 64) ∧ Hid (hexL m ++ ds = hexL n) ∧ Hid (m ≤ 9007199254740992) ∧ Hid (wr.heap[b]? = some (.cells (cells65 ds) 95 (0, 0))) ∧ Hid (Below b w wr)) (fun u _ _ => (RowKit.intOf u).toNat)
  case atStart => exact ⟨n, 64, [], rfl, rfl, Lib.hid ⟨rfl, Nat.le_refl _⟩, Lib.hid (List.append_nil _), HN, Q0, HB0⟩
  case round =>
    obtain ⟨m, j, ds, rfl, rfl, hj, hds, hm, hk, hbl⟩ := hrel
    have hlen : 51 ≤ j := by
      have h1 := hexL_length 13 n (by have := HN.out; omega)
      have h2 := congrArg List.length hds.out
      rw [List.length_append] at h2
      have h3 : (hexL m).length ≠ 0 := fun e => hexL_ne m (List.eq_nil_of_length_eq_zero e)
      have := hj.out
      omega
    have hc : wr.cell? ⟨b, j, none⟩ = some (.int .u8 0) := by rw [cell_of_heap hk.out]; exact cells65_at ds j hj.out.1 hj.out.2
    have hf : wr.frozen? ⟨b, j, none⟩ = false := frozen_of_heap hk.out j
    have hw1 : wrap64 ((j : Int) + 1 - 1) = (j : Int) := by have := hj.out; unfold wrap64; omega
    have hj1 : (j : Int) < 65 := by have := hj.out; omega
    have hset : (cells65 ds).setIfInBounds j (.int .u8 ((dg (m % 16)).toNat : Int)) = cells65 (dg (m % 16) :: ds) := by
      have := cells65_set ds (dg (m % 16)) (by have := hj.out; omega)
      rw [show 64 - ds.length = j by have := hj.out; omega] at this
      exact this
    have HS := Lib.hid (blk_put hk.out j (.int .u8 ((dg (m % 16)).toNat : Int)) hset)
    have HBL := Lib.hid (hbl.out.setCell (p := ⟨b, j, none⟩) (Nat.le_refl b) (.int .u8 ((dg (m % 16)).toNat : Int)))
    have HL := Lib.hid hlen
    by_cases h16 : m < 16
    · have c : decide ((m : Int) ≥ 16) = false := decide_eq_false (by omega)
      have H16 := Lib.hid h16
      have hm0 : (0 : Int) ≤ (m : Int) := by omega
      have hm1 : (m : Int) < 36 := by omega
      have hem : m % 16 = m := Nat.mod_eq_of_lt h16
      have HQ := Lib.hid (hexL_one h16)
      rw [hem] at HS HBL
      clear hlen h16 hset hem
      go_upto_region 25 with (fail)
      have e := digB_at m H16.out (by show m < 36; have := H16.out; omega)
      unfold digB at e
      rw [e]
      obtain ⟨W, hW⟩ : ∃ W, W = wr.setCell ⟨b, j, none⟩ (.int .u8 ((dg m).toNat : Int)) := ⟨_, rfl⟩
      rw [← hW] at HS HBL ⊢
      have hjj := hj.out
      have hsl := slice65 W b j (by omega)
      have hcv := bytes65 W b j (dg m :: ds) HS.out (by rw [List.length_cons]; omega)
      rw [show dg m :: ds = hexL n by rw [← hds.out, HQ.out]; rfl] at hcv
      clear hW e hjj hc hf hw1 hj1 hm0 hm1
      go_wp2_with fail
      go_ret2
      exact ⟨rfl, by rw [← HBB.out]; exact HBL.out⟩
    · have c : decide ((m : Int) ≥ 16) = true := decide_eq_true (by omega)
      have H16 := Lib.hid h16
      obtain ⟨d, hd⟩ : ∃ d, d = m % 16 := ⟨_, rfl⟩
      have hand : bits BinOp.and IntKind.u64 (m : Int) 15 = (d : Int) := by
        have := bits_and_u64_nat m 15 (by have := hm.out; omega) (by decide)
        rw [show m &&& 15 = m % 16 from Nat.and_two_pow_sub_one_eq_mod m 4, ← hd] at this
        exact this
      have hm0 : (0 : Int) ≤ (d : Int) := by omega
      have hm1 : (d : Int) < 36 := by omega
      have HD := Lib.hid hd
      rw [← hd] at HS HBL
      have hdig : ∀ h2, (digB[d]'h2) = dg d := fun h2 => digB_at d (by omega) h2
      have HQ := Lib.hid (hexL_more h16)
      clear hlen h16 hset hd
      go_wp2_with fail
      have hd := HD.out
      have hjj := hj.out
      have hL := HL.out
      have e := digB_at d (by omega) (by show d < 36; omega)
      unfold digB at e
      rw [e]
      refine ⟨⟨m / 16, j - 1, dg d :: ds, congrArg (Value.int IntKind.u64) (by omega), congrArg (Value.int IntKind.i64) (by omega), Lib.hid ⟨by rw [List.length_cons]; omega, by omega⟩, Lib.hid ?_, Lib.hid (by have := hm.out; omega), HS, HBL⟩, ?_⟩
      · rw [← hds.out, HQ.out, ← hd, List.append_assoc]; rfl
      · have := H16.out
        simp only [RowKit.intOf]
        omega
theorem format_in (n : Nat) (hn : n ≤ 9007199254740992) (w : World) (hG : GlobOk w) :
    Calls Tryd.prog 38 #[.int .i64 (n : Int), .int .i64 16] w fun e w' => e = .returned (.string ⟨(hexL n).toArray⟩) ∧ Below w.heap.size w w' := by
  have c : decide ((n : Int) < 0) = false := decide_eq_false (by omega)
  have hu : IntKind.u64.wrap (n : Int) = (n : Int) := by rw [IntKind.wrap_u64]; omega
  have K := Lib.hid (bits_any n hn w hG)
  clear hn hG
  go_enter Tryd.func38, Tryd.ntmps38
  go_wp2_with fail
  (try simp only [hu])
  refine K.out.mono ?_; rintro e w1 ⟨rfl, hb⟩
  have HB := Lib.hid hb
  clear hb
  go_wp2_with fail
  go_ret
  exact ⟨rfl, HB.out⟩
theorem format_out (n : Nat) (hn : n ≤ 9007199254740992) (w : World) (hG : GlobOk w) :
    Calls Tryd.prog 29 #[.int .i64 (n : Int), .int .i64 16] w fun e w' => e = .returned (.string ⟨(hexL n).toArray⟩) ∧ Below w.heap.size w w' := by
  have K := Lib.hid (format_in n hn w hG)
  clear hn hG
  go_enter Tryd.func29, Tryd.ntmps29
  go_wp2_with fail
  refine K.out.mono ?_; rintro e w1 ⟨rfl, hb⟩
  have HB := Lib.hid hb
  clear hb
  go_wp2_with fail
  go_ret
  exact ⟨rfl, HB.out⟩
theorem text16 (n : Nat) (hn : n ≤ 9007199254740992) (w : World) (hG : GlobOk w) :
    Calls Tryd.prog 20 #[.int .i64 (n : Int), .int .i64 16] w fun e w' => e = .returned (.string ⟨(hexL n).toArray⟩) ∧ Below w.heap.size w w' := by
  have hF : P.num_Fits.f (n : Int) = some true := by
    unfold P.num_Fits.f
    rw [if_pos (by omega), decide_eq_true (by omega)]
  have HF := Lib.hid hF
  have HN := Lib.hid hn
  have HG := Lib.hid hG
  clear hn hG hF
  go_enter Tryd.func20, Tryd.ntmps20
  go_wp2_with fail
  refine (P.num_Fits.calls (n : Int) true w HF.out).mono ?_; rintro e w1 ⟨rfl, hd⟩
  have HB1 := Lib.hid hd.below
  clear hd
  go_wp2_with fail
  refine (format_out n HN.out w1 (HG.out.below HB1.out)).mono ?_; rintro e w2 ⟨rfl, hb⟩
  have HB2 := Lib.hid (HB1.out.trans (hb.mono HB1.out.size))
  clear hb
  go_wp2_with fail
  go_ret
  exact ⟨rfl, HB2.out⟩
end Go.Proofs.YthemlbefkdmegaaDoor.H
