/- Several parts together: What the world holds of the library's tables (the table by which trailing zeros are counted): kept by whatever leaves elder blocks alone; out of the row's own condition; The contract of num.Text at base 16: the digits of a number; What is written into a strings.Builder: the library's contract, laid by hand at this program; The contract of chunk.Encode in the form of the printed ones; The contract of lockagelaw08.awake: what it asks for is concrete. -/
import Derived.Test.YthemlbefkdmegaaDoorProg
import Derived.Lib.LaidTab
import Derived.Lib.TrailingZeros
import Derived.Stop.LaidErr
import Derived.KernelRfl
import Derived.Below
import Derived.Test.YthemlbefkdmegaaDoorPx0
import Derived.Test.YthemlbefkdmegaaDoorPx2
import Derived.Lib.SlBytesRow
import Derived.Lib.Builder
import Derived.Laws.Bits64b
import Derived.Deep.RegionHeld3
import Derived.Test.YthemlbefkdmegaaDoorShelf
import Derived.Shelf.Strings.Builder1
import Derived.Deep.RegionWith
import Derived.Test.YthemlbefkdmegaaDoorHZC
namespace Go.Proofs.YthemlbefkdmegaaDoor.H
open Go.RowKit
theorem tab_below {P : Program} {n : String} {g : Nat} {k : IntKind} {zs : List Int} {w w' : World} (hg : P.globalNamed n = some g) (h : Lib.TabIs P w n k zs) (hb : Below w.heap.size w w') : Lib.TabIs P w' n k zs := by
  unfold Lib.TabIs World.var? at h ⊢
  rw [hg] at h ⊢
  simp only [Option.bind_some] at h ⊢
  have hlt : g < w.heap.size := by
    rcases Nat.lt_or_ge g w.heap.size with h' | h'
    · exact h'
    · rw [Array.getElem?_eq_none h'] at h; cases h
  rw [hb.block g hlt]
  exact h
def dbTab : List Int := Lib.deBruijn64tab.map fun (n : Nat) => (n : Int)
/-- The tables that the program reads are as their initialisers lay them. -/
def GlobOk (w : World) : Prop := Lib.TabIs Tryd.prog w "math/bits.deBruijn64tab" .u8 dbTab
theorem GlobOk.below {w w' : World} (h : GlobOk w) (hb : Below w.heap.size w w') : GlobOk w' := tab_below (g := 2) (by kernel_rfl) h hb
theorem laidMet_drop {P : Program} {w : World} : ∀ (i : Nat) (l : List (String × DataW Unit)), laidMet P l w → laidMet P (l.drop i) w
  | 0, _, h => h
  | _ + 1, [], h => h
  | i + 1, _ :: l, h => laidMet_drop i l h.tail
theorem GlobOk.of_laid {w : World} {l : List (String × DataW Unit)} (i : Nat) (h : laidMet Tryd.prog l w) (hl : l[i]? = some ("math/bits.deBruijn64tab", Lib.tabData .u8 dbTab)) : GlobOk w := by
  have h2 := laidMet_drop i l h
  obtain ⟨hi, he⟩ := List.getElem?_eq_some_iff.1 hl
  rw [List.drop_eq_getElem_cons hi, he] at h2
  exact Lib.tabIs_of_head (g := 2) (t := 111) (e := 5) (n := 64) (by kernel_rfl) (by kernel_rfl) (by kernel_rfl) (by kernel_rfl) (by kernel_rfl) (by kernel_rfl) h2
end Go.Proofs.YthemlbefkdmegaaDoor.H
namespace Go.Proofs.YthemlbefkdmegaaDoor.P
theorem glob_below {w w' : Go.World} (h : H.GlobOk w) (hb : Go.RowKit.Below w.heap.size w w') : H.GlobOk w' := h.below hb
end Go.Proofs.YthemlbefkdmegaaDoor.P
namespace Go.Proofs.YthemlbefkdmegaaDoor.H
open Go.RowKit Go.Shelf Go Go.Lib Go.Proofs.YthemlbefkdmegaaDoorW.PrintWords
/-- A digit. -/
def dg (d : Nat) : UInt8 := if d < 10 then UInt8.ofNat (48 + d) else UInt8.ofNat (87 + d)
/-- The sixteen-digits of a number. -/
def hexL (n : Nat) : List UInt8 := if _h : n < 16 then [dg n] else hexL (n / 16) ++ [dg (n % 16)]
theorem hexL_one {n : Nat} (h : n < 16) : hexL n = [dg n] := by rw [hexL, dif_pos h]
theorem hexL_more {n : Nat} (h : ¬ n < 16) : hexL n = hexL (n / 16) ++ [dg (n % 16)] := by rw [hexL, dif_neg h]
theorem hexL_length : ∀ (k n : Nat), n < 16 ^ (k + 1) → (hexL n).length ≤ k + 1
  | 0, n, h => by rw [hexL_one (by simpa using h)]; simp
  | k + 1, n, h => by
    by_cases hn : n < 16
    · rw [hexL_one hn]; simp
    · rw [hexL_more hn, List.length_append]
      have := hexL_length k (n / 16) (by rw [Nat.pow_succ] at h; omega)
      simp
      omega
theorem hexL_ne (n : Nat) : hexL n ≠ [] := by
  by_cases hn : n < 16
  · rw [hexL_one hn]; simp
  · rw [hexL_more hn]; simp
/-- The array of digits: what has been written stands at its end. -/
def cells65 (ds : List UInt8) : Array Value := (List.replicate (65 - ds.length) (Value.int .u8 0) ++ ds.map fun b => Value.int .u8 (b.toNat : Int)).toArray
theorem cells65_set (ds : List UInt8) (d : UInt8) (h : ds.length ≤ 64) : (cells65 ds).setIfInBounds (64 - ds.length) (.int .u8 (d.toNat : Int)) = cells65 (d :: ds) := by
  unfold cells65
  rw [List.setIfInBounds_toArray, List.set_append_left _ _ (by simp; omega)]
  congr 1
  obtain ⟨k, hk⟩ : ∃ k, ds.length = 64 - k ∧ k ≤ 64 := ⟨64 - ds.length, by omega, by omega⟩
  have e1 : 65 - ds.length = k + 1 := by omega
  have e2 : 64 - ds.length = k := by omega
  have e3 : 65 - (d :: ds).length = k := by simp; omega
  rw [e1, e2, e3, List.replicate_succ', List.set_append_right _ _ (by simp)]
  simp
theorem cells65_at (ds : List UInt8) (j : Nat) (h : ds.length = 64 - j) (hj : j ≤ 64) : (cells65 ds)[j]? = some (.int .u8 0) := by
  unfold cells65
  rw [List.getElem?_toArray, List.getElem?_append_left (by simp; omega), List.getElem?_replicate, if_pos (by omega)]
def digB : ByteArray := ⟨#[48, 49, 50, 51, 52, 53, 54, 55, 56, 57, 97, 98, 99, 100, 101, 102, 103, 104, 105, 106, 107, 108, 109, 110, 111, 112, 113, 114, 115, 116, 117, 118, 119, 120, 121, 122]⟩
theorem digB_at (d : Nat) (h : d < 16) (h2 : d < digB.size) : digB[d]'h2 = dg d := by
  have a : ((List.range 16).all fun d => digB.data.toList.getD d 0 == dg d) = true := by kernel_rfl
  rw [List.all_eq_true] at a
  have := a d (List.mem_range.2 h)
  rw [beq_iff_eq] at this
  rw [← this, List.getD_eq_getElem?_getD, List.getElem?_eq_getElem (by simpa using h2)]
  rfl
theorem slice65 (W : World) (b j : Nat) (h : j < 65) : (Instr.sliceAt 95 (.pointer (some ⟨b, 0, none⟩)) (some (.int .i64 (j : Int))) none none).run Tryd.prog W = .ok (.slice (some ⟨b, j, none⟩) (65 - j) (65 - j)) W := by
  have ht : Tryd.prog.underlying 95 = some (.array (Tryd.prog.arrayLen 95) (Tryd.prog.elem 95)) := by kernel_rfl
  have hal : Tryd.prog.arrayLen 95 = 65 := by kernel_rfl
  have hel : Tryd.prog.elem 95 = 5 := by kernel_rfl
  rw [run_sliceAt_array_l W 95 ⟨b, 0, none⟩ ht .i64 (j : Int) (by omega) (by rw [hal]; omega), hel, Tryd.sizeOf5]
  have ha : (⟨b, 0, none⟩ : Addr).add j = ⟨b, j, none⟩ := by unfold Addr.add; split <;> simp_all
  simp only [Result.andThen, slicedAt, hal, Int.toNat_natCast, Nat.mul_one, ha]
  rw [if_neg (by omega)]
theorem bytes65 (W : World) (b j : Nat) (ds : List UInt8) (hk : W.heap[b]? = some (.cells (cells65 ds) 95 (0, 0))) (hj : j + ds.length = 65) :
    (convert 26 9 (.slice (some ⟨b, j, none⟩) (65 - j) (65 - j))).run Tryd.prog W = .ok (.string ⟨ds.toArray⟩) W := by
  have hs : (⟨ds.toArray⟩ : ByteArray).size = 65 - j := by show ds.toArray.size = _; rw [List.size_toArray]; omega
  have := Lib.run_convert_whole W 26 5 9 Tryd.underlying26 Tryd.underlying5 Tryd.underlying9 b j ⟨ds.toArray⟩ (fun i hi => by
    rw [cell_of_heap hk]
    unfold cells65
    have hi' : i < ds.length := by rw [hs] at hi; omega
    rw [List.getElem?_toArray, List.getElem?_append_right (by simp; omega), List.length_replicate, List.getElem?_map, show j + i - (65 - ds.length) = i by omega, List.getElem?_eq_getElem hi']
    rfl) (65 - j)
  rw [hs] at this
  exact this
theorem db_cell (w : World) (hG : GlobOk w) : w.cell? ⟨2, 15, none⟩ = some (.int .u8 4) := by
  have h := hG
  unfold GlobOk Lib.TabIs World.var? at h
  rw [show Tryd.prog.globalNamed "math/bits.deBruijn64tab" = some 2 by kernel_rfl] at h
  simp only [Option.bind_some] at h
  unfold World.cell?
  split at h
  · rename_i cs t fr hb
    rw [hb]
    simp only [Option.some.injEq] at h
    rw [h]
    rfl
  · cases h
theorem TZ64 (w : World) (hG : GlobOk w) : Calls Tryd.prog 68 #[.int .u64 16] w fun e w' => e = .returned (.int .i64 4) ∧ w' = w := by
  have hc := db_cell w hG
  have key : IntKind.u64.wrap (bits BinOp.and IntKind.u64 16 (IntKind.u64.wrap (-16)) * 285870213051353865) / 288230376151711744 = 15 := by kernel_rfl
  go_enter Tryd.func68, Tryd.ntmps68
  go_wp2_with (simp only [key])
  go_ret
  exact ⟨rfl, rfl⟩
theorem TZ16 (w : World) (hG : GlobOk w) : Calls Tryd.prog 61 #[.int .u64 16] w fun e w' => e = .returned (.int .i64 4) ∧ w' = w := by
  go_enter Tryd.func61, Tryd.ntmps61
  go_wp2_with fail
  refine (TZ64 w hG).mono ?_; rintro e w' ⟨rfl, rfl⟩
  go_wp2_with fail
  go_ret
  exact ⟨rfl, rfl⟩
theorem pow16 (w : World) : Calls Tryd.prog 60 #[.int .i64 16] w fun e w' => e = .returned (.bool true) ∧ w' = w := by
  go_enter Tryd.func60, Tryd.ntmps60
  go_wp2_with fail
  go_ret
  exact ⟨rfl, rfl⟩
set_option maxHeartbeats 1600000 in
set_option maxRecDepth 100000 in
theorem bits_any (n : Nat) (hn : n ≤ 9007199254740992) (w : World) (hG : GlobOk w) :
    Calls Tryd.prog 51 #[.slice none 0 0, .int .u64 (n : Int), .int .i64 16, .bool false, .bool false] w fun e w' => e = .returned (.tuple #[.slice none 0 0, .string ⟨(hexL n).toArray⟩]) ∧ Below w.heap.size w w' := by
  have HG := Lib.hid hG
  have HN := Lib.hid hn
  clear hG hn
  go_enter Tryd.func51, Tryd.ntmps51
  go_wp2_with fail
  have hz : Tryd.zeroCells95 = cells65 [] := by kernel_rfl
  rw [hz]
  clear hz
  have q0 := heap_alloc_new w (.cells (cells65 []) 95)
  have hb0 := below_alloc (Below.refl w.heap.size w) (.cells (cells65 []) 95)
  obtain ⟨b, hb⟩ : ∃ b, b = w.heap.size := ⟨_, rfl⟩
  obtain ⟨W1, hW1⟩ : ∃ W1, W1 = w.alloc (.cells (cells65 []) 95) := ⟨_, rfl⟩
  rw [← hW1] at q0 hb0 ⊢
  simp only [← hb] at q0 hb0 ⊢
  have HBB := Lib.hid hb
  have Q0 := Lib.hid q0
  have HB0 := Lib.hid hb0
  have HG1 := Lib.hid (HG.out.below (by rw [← hb]; exact hb0))
  clear hW1 hb q0 hb0
  refine (pow16 W1).mono ?_; rintro e w2 ⟨rfl, rfl⟩
  go_wp2_with fail
  refine (TZ16 w2 HG1.out).mono ?_; rintro e w3 ⟨rfl, rfl⟩
  go_wp2_with fail
  go_loopw [1, 13] (fun u i wr => ∃ (m j : Nat) (ds : List UInt8), u = .int .u64 (m : Int) ∧ i = .int .i64 ((j : Int) + 1) ∧ Hid (ds.length = 64 - j ∧ j ≤ 64) ∧ Hid (hexL m ++ ds = hexL n) ∧ Hid (m ≤ 9007199254740992) ∧ Hid (wr.heap[b]? = some (.cells (cells65 ds) 95 (0, 0))) ∧ Hid (Below b w wr)) (fun u _ _ => (RowKit.intOf u).toNat)
  case atStart => exact ⟨n, 64, [], rfl, rfl, Lib.hid ⟨rfl, Nat.le_refl _⟩, Lib.hid (List.append_nil _), HN, Q0, HB0⟩
  case round =>
    obtain ⟨m, j, ds, rfl, rfl, hj, hds, hm, hk, hbl⟩ := hrel
    have hlen : 51 ≤ j := by
      have h1 := hexL_length 13 n (by have := HN.out; omega)
      have h2 := congrArg List.length hds.out
      rw [List.length_append] at h2
      have h3 : (hexL m).length ≠ 0 := fun e => hexL_ne m (List.eq_nil_of_length_eq_zero e)
      have := hj.out
      omega
    have hc : wr.cell? ⟨b, j, none⟩ = some (.int .u8 0) := by rw [cell_of_heap hk.out]; exact cells65_at ds j hj.out.1 hj.out.2
    have hf : wr.frozen? ⟨b, j, none⟩ = false := frozen_of_heap hk.out j
    have hw1 : wrap64 ((j : Int) + 1 - 1) = (j : Int) := by have := hj.out; unfold wrap64; omega
    have hj1 : (j : Int) < 65 := by have := hj.out; omega
    have hset : (cells65 ds).setIfInBounds j (.int .u8 ((dg (m % 16)).toNat : Int)) = cells65 (dg (m % 16) :: ds) := by
      have := cells65_set ds (dg (m % 16)) (by have := hj.out; omega)
      rw [show 64 - ds.length = j by have := hj.out; omega] at this
      exact this
    have HS := Lib.hid (blk_put hk.out j (.int .u8 ((dg (m % 16)).toNat : Int)) hset)
    have HBL := Lib.hid (hbl.out.setCell (p := ⟨b, j, none⟩) (Nat.le_refl b) (.int .u8 ((dg (m % 16)).toNat : Int)))
    have HL := Lib.hid hlen
    by_cases h16 : m < 16
    · have c : decide ((m : Int) ≥ 16) = false := decide_eq_false (by omega)
      have H16 := Lib.hid h16
      have hm0 : (0 : Int) ≤ (m : Int) := by omega
      have hm1 : (m : Int) < 36 := by omega
      have hem : m % 16 = m := Nat.mod_eq_of_lt h16
      have HQ := Lib.hid (hexL_one h16)
      rw [hem] at HS HBL
      clear hlen h16 hset hem
      go_upto_region 25 with (fail)
      have e := digB_at m H16.out (by show m < 36; have := H16.out; omega)
      unfold digB at e
      rw [e]
      obtain ⟨W, hW⟩ : ∃ W, W = wr.setCell ⟨b, j, none⟩ (.int .u8 ((dg m).toNat : Int)) := ⟨_, rfl⟩
      rw [← hW] at HS HBL ⊢
      have hjj := hj.out
      have hsl := slice65 W b j (by omega)
      have hcv := bytes65 W b j (dg m :: ds) HS.out (by rw [List.length_cons]; omega)
      rw [show dg m :: ds = hexL n by rw [← hds.out, HQ.out]; rfl] at hcv
      clear hW e hjj hc hf hw1 hj1 hm0 hm1
      go_wp2_with fail
      go_ret2
      exact ⟨rfl, by rw [← HBB.out]; exact HBL.out⟩
    · have c : decide ((m : Int) ≥ 16) = true := decide_eq_true (by omega)
      have H16 := Lib.hid h16
      obtain ⟨d, hd⟩ : ∃ d, d = m % 16 := ⟨_, rfl⟩
      have hand : bits BinOp.and IntKind.u64 (m : Int) 15 = (d : Int) := by
        have := bits_and_u64_nat m 15 (by have := hm.out; omega) (by decide)
        rw [show m &&& 15 = m % 16 from Nat.and_two_pow_sub_one_eq_mod m 4, ← hd] at this
        exact this
      have hm0 : (0 : Int) ≤ (d : Int) := by omega
      have hm1 : (d : Int) < 36 := by omega
      have HD := Lib.hid hd
      rw [← hd] at HS HBL
      have hdig : ∀ h2, (digB[d]'h2) = dg d := fun h2 => digB_at d (by omega) h2
      have HQ := Lib.hid (hexL_more h16)
      clear hlen h16 hset hd
      go_wp2_with fail
      have hd := HD.out
      have hjj := hj.out
      have hL := HL.out
      have e := digB_at d (by omega) (by show d < 36; omega)
      unfold digB at e
      rw [e]
      refine ⟨⟨m / 16, j - 1, dg d :: ds, congrArg (Value.int IntKind.u64) (by omega), congrArg (Value.int IntKind.i64) (by omega), Lib.hid ⟨by rw [List.length_cons]; omega, by omega⟩, Lib.hid ?_, Lib.hid (by have := hm.out; omega), HS, HBL⟩, ?_⟩
      · rw [← hds.out, HQ.out, ← hd, List.append_assoc]; rfl
      · have := H16.out
        simp only [RowKit.intOf]
        omega
theorem format_in (n : Nat) (hn : n ≤ 9007199254740992) (w : World) (hG : GlobOk w) :
    Calls Tryd.prog 38 #[.int .i64 (n : Int), .int .i64 16] w fun e w' => e = .returned (.string ⟨(hexL n).toArray⟩) ∧ Below w.heap.size w w' := by
  have c : decide ((n : Int) < 0) = false := decide_eq_false (by omega)
  have hu : IntKind.u64.wrap (n : Int) = (n : Int) := by rw [IntKind.wrap_u64]; omega
  have K := Lib.hid (bits_any n hn w hG)
  clear hn hG
  go_enter Tryd.func38, Tryd.ntmps38
  go_wp2_with fail
  (try simp only [hu])
  refine K.out.mono ?_; rintro e w1 ⟨rfl, hb⟩
  have HB := Lib.hid hb
  clear hb
  go_wp2_with fail
  go_ret
  exact ⟨rfl, HB.out⟩
theorem format_out (n : Nat) (hn : n ≤ 9007199254740992) (w : World) (hG : GlobOk w) :
    Calls Tryd.prog 29 #[.int .i64 (n : Int), .int .i64 16] w fun e w' => e = .returned (.string ⟨(hexL n).toArray⟩) ∧ Below w.heap.size w w' := by
  have K := Lib.hid (format_in n hn w hG)
  clear hn hG
  go_enter Tryd.func29, Tryd.ntmps29
  go_wp2_with fail
  refine K.out.mono ?_; rintro e w1 ⟨rfl, hb⟩
  have HB := Lib.hid hb
  clear hb
  go_wp2_with fail
  go_ret
  exact ⟨rfl, HB.out⟩
theorem text16 (n : Nat) (hn : n ≤ 9007199254740992) (w : World) (hG : GlobOk w) :
    Calls Tryd.prog 20 #[.int .i64 (n : Int), .int .i64 16] w fun e w' => e = .returned (.string ⟨(hexL n).toArray⟩) ∧ Below w.heap.size w w' := by
  have hF : P.num_Fits.f (n : Int) = some true := by
    unfold P.num_Fits.f
    rw [if_pos (by omega), decide_eq_true (by omega)]
  have HF := Lib.hid hF
  have HN := Lib.hid hn
  have HG := Lib.hid hG
  clear hn hG hF
  go_enter Tryd.func20, Tryd.ntmps20
  go_wp2_with fail
  refine (P.num_Fits.calls (n : Int) true w HF.out).mono ?_; rintro e w1 ⟨rfl, hd⟩
  have HB1 := Lib.hid hd.below
  clear hd
  go_wp2_with fail
  refine (format_out n HN.out w1 (HG.out.below HB1.out)).mono ?_; rintro e w2 ⟨rfl, hb⟩
  have HB2 := Lib.hid (HB1.out.trans (hb.mono HB1.out.size))
  clear hb
  go_wp2_with fail
  go_ret
  exact ⟨rfl, HB2.out⟩
end Go.Proofs.YthemlbefkdmegaaDoor.H
namespace Go.Proofs.YthemlbefkdmegaaDoor.H
open Go.RowKit Go.Shelf Go
def bren : Go.Shelf.Ren := ⟨fun | 166 => 19 | 240 => 27 | 276 => 37 | n => n, fun | 70 => 44 | 72 => 46 | 9 => 9 | 0 => 0 | 3 => 3 | 4 => 4 | 5 => 5 | 20 => 20 | 37 => 26 | 75 => 48 | 80 => 52 | 164 => 75 | n => n, fun | n => n⟩
theorem lays166 : Lays.n166 Tryd.prog bren := {
  mixed := by kernel_rfl
  f166 := Tryd.func19.trans (congrArg some (by kernel_rfl))
  f240 := Tryd.func27.trans (congrArg some (by kernel_rfl))
  f276 := Tryd.func37.trans (congrArg some (by kernel_rfl))
  t0 := Tryd.underlying0
  a0 := Tryd.isAgg0
  z0 := Tryd.sizeOf0
  v0 := Tryd.zeroValue0
  t3 := Tryd.underlying3
  a3 := Tryd.isAgg3
  z3 := Tryd.sizeOf3
  v3 := Tryd.zeroValue3
  t4 := Tryd.underlying4
  a4 := Tryd.isAgg4
  z4 := Tryd.sizeOf4
  v4 := Tryd.zeroValue4
  t9 := Tryd.underlying9
  a9 := Tryd.isAgg9
  z9 := Tryd.sizeOf9
  v9 := Tryd.zeroValue9
  t20 := Tryd.underlying20
  a20 := Tryd.isAgg20
  z20 := Tryd.sizeOf20
  v20 := Tryd.zeroValue20
  t37 := Tryd.underlying26
  a37 := Tryd.isAgg26
  z37 := Tryd.sizeOf26
  v37 := Tryd.zeroValue26
  t70 := Tryd.underlying44
  a70 := Tryd.isAgg44
  z70 := Tryd.sizeOf44
  v70 := Tryd.zeroValue44
  t72 := Tryd.underlying46
  a72 := Tryd.isAgg46
  z72 := Tryd.sizeOf46
  v72 := Tryd.zeroValue46
  t75 := Tryd.underlying48
  a75 := Tryd.isAgg48
  z75 := Tryd.sizeOf48
  v75 := Tryd.zeroValue48
  t164 := Tryd.underlying75
  a164 := Tryd.isAgg75
  z164 := Tryd.sizeOf75
  v164 := Tryd.zeroValue75 }
theorem bextra : Builder.Extra Tryd.prog bren := {
  sizeBuilder := by kernel_rfl
  liesBuilder := by kernel_rfl
  t5 := Tryd.underlying5
  a5 := Tryd.isAgg5
  z5 := Tryd.sizeOf5
  v5 := Tryd.zeroValue5
  infoByte := by kernel_rfl
  cellsByte := by kernel_rfl
  sizeByte := by kernel_rfl
  neB5 := by decide }
theorem write_any (B b : Nat) (bs : List Value) (s : ByteArray) (w : World) (h : Lib.IsBuilder 46 5 B b bs w) (hlen : bs.length + s.size ≤ 140737488355328) (hBw : B ≤ w.heap.size) :
    Calls Tryd.prog 19 #[.pointer (some ⟨b, 0, none⟩), .string s] w fun e w' => e = .returned (.tuple #[.int .i64 s.size, .nilIface]) ∧ (Lib.BuilderAt 46 5 B b (.pointer (some ⟨b, 0, none⟩)) (bs ++ Lib.strCells s) w' ∧ Below B w w') :=
  Any.Builder_WriteString lays166 bextra B b bs s w h hlen hBw
theorem text_any (B b : Nat) (l : List UInt8) (w : World) (h : Lib.IsBuilder 46 5 B b (Lib.byteCells l) w) (h0 : l ≠ []) :
    Calls Tryd.prog 21 #[.pointer (some ⟨b, 0, none⟩)] w fun e w' => e = .returned (.string ⟨l.toArray⟩) ∧ Below B w w' := Tryd.Builder_String B b l w h h0
end Go.Proofs.YthemlbefkdmegaaDoor.H
namespace Go.Proofs.YthemlbefkdmegaaDoor.H
open Go.RowKit Go.Shelf Go Go.Lib
theorem isb_below {T e : TypeId} {B b : Nat} {bs : List Value} {w w' : World} (h : IsBuilder T e B b bs w) (hb : Below w.heap.size w w') : IsBuilder T e B b bs w' := by
  have key : ∀ p, BuilderAt T e B b p bs w → BuilderAt T e B b p bs w' := fun p h => by
    obtain ⟨hB, v, hk, hown, hne⟩ := h
    have hlt : b < w.heap.size := by
      rcases Nat.lt_or_ge b w.heap.size with h' | h'
      · exact h'
      · simp [Array.getElem?_eq_none h'] at hk
    refine ⟨hB, v, (hb.block b hlt).trans hk, ?_, hne⟩
    refine hown.kept (row := none) ⟨hb.os, hb.tape, hb.output, hb.size, fun k hk _ => hb.block k hk⟩ ?_
    cases e : v.ownBlock with
    | none => exact .inl rfl
    | some g => exact .inr (by simp)
  exact h.elim (fun h => .inl (key _ h)) (fun h => .inr (key _ h))
def strLen : Value → Nat | .string s => s.size | _ => 0
end Go.Proofs.YthemlbefkdmegaaDoor.H
namespace Go.Proofs.YthemlbefkdmegaaDoor.P
open Go.RowKit Go.Shelf Go.Lib Go.Proofs.YthemlbefkdmegaaDoorW.PrintWords Go.Proofs.YthemlbefkdmegaaDoorW.PrintLast Go.Proofs.YthemlbefkdmegaaDoorW.PrintMore
/-- A chunk. -/
def oneChunk (n : Nat) (s : ByteArray) : ByteArray := ((⟨(H.hexL n).toArray⟩ ++ (⟨#[13, 10]⟩ : ByteArray)) ++ s.extract 0 n) ++ (⟨#[13, 10]⟩ : ByteArray)
def chunk_Encode.l0 : Nat → Int → ByteArray → ByteArray → Option ByteArray
  | 0, _, _, _ => none
  | k + 1, size, s, out =>
    if 0 < s.size then
      if 1 ≤ size ∧ size ≤ 4000 ∧ s.size ≤ 4000 ∧ out.size ≤ 1000000 then
        chunk_Encode.l0 k size (s.extract (min size.toNat s.size) s.size) (out ++ oneChunk (min size.toNat s.size) s)
      else none
    else if out.size ≤ 1000000 then some (out ++ (⟨#[48, 13, 10, 13, 10]⟩ : ByteArray)) else none
def chunk_Encode.f (k : Nat) (a0 : ByteArray) (a1 : Int) : Option (ByteArray × Int) :=
  if a1 < 1 then some (⟨#[]⟩, 1) else if a1 > 4000 then some (⟨#[]⟩, 1) else if (a0.size : Int) > 4000 then some (⟨#[]⟩, 1) else
    (chunk_Encode.l0 k a1 a0 ⟨#[]⟩).bind fun t => some (t, 0)
theorem chunk_Encode.mono_l : ∀ (k : Nat) (size : Int) (s out : ByteArray), LeO (chunk_Encode.l0 k size s out) (chunk_Encode.l0 (k + 1) size s out)
  | 0, _, _, _ => fun r h => by simp [chunk_Encode.l0] at h
  | k + 1, size, s, out => by
    have ih := chunk_Encode.mono_l k
    unfold chunk_Encode.l0
    exact .ite (.ite (ih _ _ _) (.refl _)) (.refl _)
theorem chunk_Encode.mono (a0 : ByteArray) (a1 : Int) (k : Nat) : LeO (chunk_Encode.f k a0 a1) (chunk_Encode.f (k + 1) a0 a1) := by
  unfold chunk_Encode.f
  exact .ite (.refl _) (.ite (.refl _) (.ite (.refl _) (.bind (chunk_Encode.mono_l _ _ _ _) fun t => .refl _)))
set_option maxHeartbeats 3200000 in
set_option maxRecDepth 100000 in
theorem chunk_Encode.calls (k : Nat) (a0 : ByteArray) (a1 : Int) (r1 : ByteArray) (r2 : Int) (w : World) (hG_ : H.GlobOk w) (h : chunk_Encode.f k a0 a1 = some (r1, r2)) :
    Calls Tryd.prog 13 #[.string a0, .int .i64 a1] w fun e w' => e = .returned (.tuple #[.string r1, .int .i64 r2]) ∧ Below w.heap.size w w' := by
  unfold chunk_Encode.f at h
  split at h
  case isTrue c1 =>
    simp only [Option.some.injEq, Prod.mk.injEq] at h
    obtain ⟨rfl, rfl⟩ := h
    have d1 : decide (a1 < 1) = true := decide_eq_true c1
    clear c1 hG_
    go_enter Tryd.func13, Tryd.ntmps13
    go_wp2_with fail
    go_ret2
    exact ⟨rfl, Below.refl _ _⟩
  case isFalse c1 =>
  have d1 : decide (a1 < 1) = false := decide_eq_false c1
  split at h
  case isTrue c2 =>
    simp only [Option.some.injEq, Prod.mk.injEq] at h
    obtain ⟨rfl, rfl⟩ := h
    have d2 : decide (a1 > 4000) = true := decide_eq_true c2
    clear c1 c2 hG_
    go_enter Tryd.func13, Tryd.ntmps13
    go_wp2_with fail
    go_ret2
    exact ⟨rfl, Below.refl _ _⟩
  case isFalse c2 =>
  have d2 : decide (a1 > 4000) = false := decide_eq_false c2
  split at h
  case isTrue c3 =>
    simp only [Option.some.injEq, Prod.mk.injEq] at h
    obtain ⟨rfl, rfl⟩ := h
    have d3 : decide ((a0.size : Int) > 4000) = true := decide_eq_true c3
    clear c1 c2 c3 hG_
    go_enter Tryd.func13, Tryd.ntmps13
    go_wp2_with fail
    go_ret2
    exact ⟨rfl, Below.refl _ _⟩
  case isFalse c3 =>
  have d3 : decide ((a0.size : Int) > 4000) = false := decide_eq_false c3
  obtain ⟨t, hl, h⟩ := Option.bind_eq_some_iff.1 h
  simp only [Option.some.injEq, Prod.mk.injEq] at h
  obtain ⟨rfl, rfl⟩ := h
  obtain ⟨bb, hbb⟩ : ∃ bb, bb = w.heap.size := ⟨_, rfl⟩
  have hfr := Lib.fresh_isBuilder 46 5 w
  have hb0 := below_alloc (Below.refl w.heap.size w) (.cells #[.pointer none, .slice none 0 0] 46)
  have HL := Lib.hid hl
  have HG := Lib.hid hG_
  have HFR := Lib.hid hfr
  have HB0 := Lib.hid hb0
  have HC : Hid (1 ≤ a1 ∧ a1 ≤ 4000) := Lib.hid (by omega)
  clear hl hG_ hfr hb0 c1 c2 c3
  go_enter Tryd.func13, Tryd.ntmps13
  go_wp2_with fail
  obtain ⟨W1, hW1⟩ : ∃ W1, W1 = w.alloc (.cells #[.pointer none, .slice none 0 0] 46) := ⟨_, rfl⟩
  rw [← hW1] at HFR HB0 ⊢
  rw [← hbb] at HFR HB0
  simp only [← hbb]
  have HBB := Lib.hid hbb
  clear hW1 d1 d2 d3 hbb
  clear h
  go_loopw [0] (fun v wr => ∃ (kq : Nat) (s out : ByteArray), v = .string s ∧ Hid (chunk_Encode.l0 kq a1 s out = some t) ∧ Hid (Lib.IsBuilder 46 5 bb bb (strCells out) wr) ∧ Hid (Below bb w wr)) (fun v _ => H.strLen v)
  case atStart => exact ⟨k, a0, ⟨#[]⟩, rfl, HL, HFR, HB0⟩
  case round =>
    obtain ⟨kq, s, out, rfl, hl, hB, hbl⟩ := hrel
    have h := hl.out
    cases kq with
    | zero => simp [chunk_Encode.l0] at h
    | succ kq =>
    unfold chunk_Encode.l0 at h
    split at h
    case isFalse hs =>
      have d : decide (0 < s.size) = false := decide_eq_false hs
      split at h
      case isFalse => cases h
      case isTrue hout =>
      injection h with h
      have HT := Lib.hid h
      have hBB := HBB.out
      have K := Lib.hid (H.write_any bb bb (strCells out) ⟨#[48, 13, 10, 13, 10]⟩ wr hB.out (by rw [strCells_length]; have : (⟨#[48, 13, 10, 13, 10]⟩ : ByteArray).size = 5 := rfl; omega) (by have := hbl.out.size; omega))
      clear h hs hout hBB
      go_wp2_with fail
      refine K.out.mono ?_; rintro e w2 ⟨rfl, h2, hb2⟩
      have HB2 := Lib.hid (hbl.out.trans hb2)
      have K2 := Lib.hid (H.text_any bb bb t.data.toList w2 (by rw [← HT.out, ByteArray.data_append, Array.toList_append]; unfold strCells at h2; rw [← List.map_append] at h2; exact .inr h2) (by rw [← HT.out, ByteArray.data_append, Array.toList_append]; simp))
      clear h2 hb2
      go_wp2_with fail
      refine K2.out.mono ?_; rintro e w3 ⟨rfl, hb3⟩
      have HB3 := Lib.hid (HB2.out.trans hb3)
      clear hb3
      go_wp2_with fail
      go_ret2
      exact ⟨rfl, by rw [← HBB.out]; exact HB3.out⟩
    case isTrue hs =>
      have d : decide (0 < s.size) = true := decide_eq_true hs
      split at h
      case isFalse => cases h
      case isTrue hg =>
      obtain ⟨n, hn⟩ : ∃ n, n = min a1.toNat s.size := ⟨_, rfl⟩
      rw [← hn] at h
      have hmin : min a1 (s.size : Int) = (n : Int) := by omega
      have hn0 : (0 : Int) ≤ (n : Int) := by omega
      have hn1 : (n : Int) ≤ (s.size : Int) := by omega
      have HN : Hid (1 ≤ n ∧ n ≤ s.size ∧ s.size ≤ 4000 ∧ out.size ≤ 1000000) := Lib.hid (by omega)
      have HT := Lib.hid h
      clear h hs hg hn
      go_upto_region 6 with (fail)
      have hn := HN.out
      have hx : (s.extract 0 n).size = n := by rw [ByteArray.size_extract]; omega
      have hh : (⟨(H.hexL n).toArray⟩ : ByteArray).size ≤ 14 := by
        have := H.hexL_length 13 n (by omega)
        show (H.hexL n).toArray.size ≤ 14
        rw [List.size_toArray]
        exact this
      have h2 : (⟨#[13, 10]⟩ : ByteArray).size = 2 := rfl
      have HH := Lib.hid hh
      obtain ⟨X, hX⟩ : ∃ X : ByteArray, X = ⟨(H.hexL n).toArray⟩ := ⟨_, rfl⟩
      rw [← hX] at hh
      have s1 : X.size + 2 ≤ 9223372036854775807 := by omega
      have s1' : X.size + (⟨#[13, 10]⟩ : ByteArray).size ≤ 9223372036854775807 := by omega
      have s2 : (X ++ (⟨#[13, 10]⟩ : ByteArray)).size + (s.extract 0 n).size ≤ 9223372036854775807 := by rw [ByteArray.size_append]; omega
      have s2' : X.size + 2 + (s.extract 0 n).size ≤ 9223372036854775807 := by omega
      have s3 : ((X ++ (⟨#[13, 10]⟩ : ByteArray)) ++ s.extract 0 n).size + (⟨#[13, 10]⟩ : ByteArray).size ≤ 9223372036854775807 := by rw [ByteArray.size_append, ByteArray.size_append]; omega
      have s3' : X.size + 2 + (s.extract 0 n).size + 2 ≤ 9223372036854775807 := by omega
      have s3'' : ((X ++ (⟨#[13, 10]⟩ : ByteArray)) ++ s.extract 0 n).size + 2 ≤ 9223372036854775807 := by rw [ByteArray.size_append, ByteArray.size_append]; omega
      have s4 : X.size + 2 + min n s.size ≤ 9223372036854775807 := by omega
      have s4' : X.size + 2 + min n s.size + 2 ≤ 9223372036854775807 := by omega
      have s5 : (X ++ (⟨#[13, 10]⟩ : ByteArray)).size + min n s.size ≤ 9223372036854775807 := by rw [ByteArray.size_append]; omega
      have s5' : (X ++ (⟨#[13, 10]⟩ : ByteArray)).size + min n s.size + 2 ≤ 9223372036854775807 := by rw [ByteArray.size_append]; omega
      have s6 : X.size + 2 + n ≤ 9223372036854775807 := by omega
      have s6' : X.size + 2 + n + 2 ≤ 9223372036854775807 := by omega
      have hlen : (strCells out).length + (oneChunk n s).size ≤ 140737488355328 := by
        have := HH.out
        unfold oneChunk
        rw [strCells_length, ByteArray.size_append, ByteArray.size_append, ByteArray.size_append]
        omega
      have HLEN := Lib.hid hlen
      have hbb : bb ≤ wr.heap.size := by have := hbl.out.size; have := HBB.out; omega
      have HBW := Lib.hid hbb
      have K := Lib.hid (H.text16 n (by omega) wr.drew (HG.out.below (by have := hbl.out; rw [HBB.out] at this; exact this.drew)))
      have HO : Hid (((X ++ (⟨#[13, 10]⟩ : ByteArray)) ++ s.extract 0 n) ++ (⟨#[13, 10]⟩ : ByteArray) = oneChunk n s) := Lib.hid (by rw [hX]; rfl)
      rw [← hX] at K
      have HLX := Lib.hid (show (strCells out).length + (((X ++ (⟨#[13, 10]⟩ : ByteArray)) ++ s.extract 0 n) ++ (⟨#[13, 10]⟩ : ByteArray)).size ≤ 140737488355328 by rw [HO.out]; exact hlen)
      clear hn hx hh h2 hlen hbb hX
      go_region_with (first
        | (go_at_call 20; refine K.out.mono ?_; rintro e w2 ⟨rfl, hb2⟩)
        | (go_at_call 19; refine (H.write_any bb bb (strCells out) (((X ++ (⟨#[13, 10]⟩ : ByteArray)) ++ s.extract 0 n) ++ (⟨#[13, 10]⟩ : ByteArray)) _ (H.isb_below hB.out ((Below.refl _ _).drew.trans hb2)) HLX.out (Nat.le_trans HBW.out hb2.size)).mono ?_; rintro e w3 ⟨rfl, h3, hb3⟩))
      rw [HO.out] at h3
      have HB3 : Hid (Lib.IsBuilder 46 5 bb bb (strCells (out ++ oneChunk n s)) w3) := Lib.hid (.inr (by
        have e : strCells (out ++ oneChunk n s) = strCells out ++ strCells (oneChunk n s) := by
          unfold strCells
          rw [ByteArray.data_append, Array.toList_append, List.map_append]
        rw [e]
        exact h3))
      have HBL3 := Lib.hid (hbl.out.drew.trans ((hb2.mono HBW.out).trans hb3))
      clear h3 hb2 hb3 s1 s1' s2 s2' s3 s3' s3'' s4 s4' s5 s5' s6 s6'
      go_wp2_with fail
      refine ⟨⟨kq, s.extract n s.size, out ++ oneChunk n s, rfl, HT, HB3, HBL3⟩, ?_⟩
      have := HN.out
      show (s.extract n s.size).size < s.size
      rw [ByteArray.size_extract]
      omega
end Go.Proofs.YthemlbefkdmegaaDoor.P
namespace Go.Proofs.YthemlbefkdmegaaDoor.P
open Go.RowKit Go.Shelf Go.Lib Go.Proofs.YthemlbefkdmegaaDoorW.PrintWords Go.Proofs.YthemlbefkdmegaaDoorW.PrintLast Go.Proofs.YthemlbefkdmegaaDoorW.PrintMore
def lockagelaw08_awake.f (k : Nat) : Option Bool := if 100 ≤ k then some true else none
theorem lockagelaw08_awake.mono : ∀ k, LeO (lockagelaw08_awake.f k) (lockagelaw08_awake.f (k + 1)) := by
  intro k r h
  unfold lockagelaw08_awake.f at h ⊢
  split at h
  · rw [if_pos (by omega)]; exact h
  · cases h
set_option maxHeartbeats 1600000 in
set_option maxRecDepth 100000 in
theorem lockagelaw08_awake.calls (k : Nat) (r : Bool) (w : World) (hG_ : H.GlobOk w) (h : lockagelaw08_awake.f k = some r) :
    Calls Tryd.prog 9 #[] w fun e w' => e = .returned (.bool r) ∧ Below w.heap.size w w' := by
  unfold lockagelaw08_awake.f at h
  split at h
  case isFalse => cases h
  case isTrue =>
  injection h with h
  subst h
  have f1 : chunk_Feed.f 100 0 0 ⟨#[]⟩ 0 (⟨#[51, 13, 10, 97, 98, 99, 13, 10, 48, 13, 10, 13, 10, 120]⟩ : ByteArray) = some (4, 0, ⟨#[]⟩, 3, 13, ⟨#[97, 98, 99]⟩, 0) := by kernel_rfl
  have f2 : chunk_Feed.f 100 0 0 ⟨#[]⟩ 0 (⟨#[103, 13, 10]⟩ : ByteArray) = some (0, 0, ⟨#[]⟩, 0, 0, ⟨#[]⟩, 23) := by kernel_rfl
  have f3 : chunk_Encode.f 100 (⟨#[97, 98, 99, 100]⟩ : ByteArray) 3 = some (⟨#[51, 13, 10, 97, 98, 99, 13, 10, 49, 13, 10, 100, 13, 10, 48, 13, 10, 13, 10]⟩, 0) := by kernel_rfl
  have f4 : chunk_Right.f 100 4 0 ⟨#[]⟩ 3 = some true := by kernel_rfl
  have f5 : chunk_Right.f 100 5 0 ⟨#[]⟩ 0 = some false := by kernel_rfl
  have HG := Lib.hid hG_
  have F1 := Lib.hid f1
  have F2 := Lib.hid f2
  have F3 := Lib.hid f3
  have F4 := Lib.hid f4
  have F5 := Lib.hid f5
  clear hG_ f1 f2 f3 f4 f5
  go_enter Tryd.func9, Tryd.ntmps9
  go_wp2_with fail
  refine (chunk_Feed.calls 100 _ _ _ _ _ _ _ _ _ _ _ _ w F1.out).mono ?_; rintro e w1 ⟨rfl, hb⟩
  have HB1 := Lib.hid hb
  clear hb
  go_wp2_with fail
  have q := heap_alloc_new w1 (.cells #[.int .i64 4, .int .i64 0, .string ⟨#[]⟩, .int .i64 3] 23)
  have hb := (below_alloc (Below.refl w1.heap.size w1) (.cells #[.int .i64 4, .int .i64 0, .string ⟨#[]⟩, .int .i64 3] 23)).mono HB1.out.size
  obtain ⟨g, hg⟩ : ∃ g, g = w1.heap.size := ⟨_, rfl⟩
  obtain ⟨W2, hW2⟩ : ∃ W2, W2 = w1.alloc (.cells #[.int .i64 4, .int .i64 0, .string ⟨#[]⟩, .int .i64 3] 23) := ⟨_, rfl⟩
  have hlt : g < W2.heap.size := by rw [hW2, hg]; simp
  rw [← hW2, ← hg] at q
  rw [← hW2] at hb ⊢
  simp only [← hg]
  have Q2 := Lib.hid q
  have HB2 := Lib.hid (HB1.out.trans hb)
  have HLT := Lib.hid hlt
  clear hW2 hg q hb hlt HB1
  refine (chunk_Feed.calls 100 _ _ _ _ _ _ _ _ _ _ _ _ W2 F2.out).mono ?_; rintro e w3 ⟨rfl, hb⟩
  have Q3 := Lib.hid ((hb.block g HLT.out).trans Q2.out)
  have HB3 := Lib.hid (HB2.out.trans (hb.mono HB2.out.size))
  have HL3 := Lib.hid (Nat.lt_of_lt_of_le HLT.out hb.size)
  clear hb Q2 HB2 HLT
  go_wp2_with fail
  have hb := (below_alloc (Below.refl w3.heap.size w3) (.cells #[.int .i64 0, .int .i64 0, .string ⟨#[]⟩, .int .i64 0] 23)).mono HB3.out.size
  have q := (Below.heap_alloc w3 (.cells #[.int .i64 0, .int .i64 0, .string ⟨#[]⟩, .int .i64 0] 23) g HL3.out).trans Q3.out
  obtain ⟨W4, hW4⟩ : ∃ W4, W4 = w3.alloc (.cells #[.int .i64 0, .int .i64 0, .string ⟨#[]⟩, .int .i64 0] 23) := ⟨_, rfl⟩
  have hlt : g < W4.heap.size := by rw [hW4]; have := HL3.out; simp; omega
  rw [← hW4] at q hb ⊢
  have Q4 := Lib.hid q
  have HB4 := Lib.hid (HB3.out.trans hb)
  have HL4 := Lib.hid hlt
  clear hW4 q hb hlt HB3 Q3 HL3
  refine (chunk_Encode.calls 100 _ _ _ _ W4 (HG.out.below HB4.out) F3.out).mono ?_; rintro e w5 ⟨rfl, hb⟩
  have Q5 := Lib.hid ((hb.block g HL4.out).trans Q4.out)
  have HB5 := Lib.hid (HB4.out.trans (hb.mono HB4.out.size))
  clear hb Q4 HB4 HL4
  have c0 : w5.cell? ⟨g, 0, none⟩ = some (.int .i64 4) := by rw [cell_of_heap Q5.out]; rfl
  have c1 : w5.cell? ⟨g, 1, none⟩ = some (.int .i64 0) := by rw [cell_of_heap Q5.out]; rfl
  have c2 : w5.cell? ⟨g, 2, none⟩ = some (.string ⟨#[]⟩) := by rw [cell_of_heap Q5.out]; rfl
  have c3 : w5.cell? ⟨g, 3, none⟩ = some (.int .i64 3) := by rw [cell_of_heap Q5.out]; rfl
  go_wp2_with fail
  refine (chunk_Right.calls 100 _ _ _ _ _ w5 F4.out).mono ?_; rintro e w6 ⟨rfl, hb⟩
  have HB6 := Lib.hid (HB5.out.trans (hb.mono HB5.out.size))
  clear hb c0 c1 c2 c3 Q5 HB5
  go_wp2_with fail
  refine (chunk_Right.calls 100 _ _ _ _ _ w6 F5.out).mono ?_; rintro e w7 ⟨rfl, hb⟩
  have HB7 := Lib.hid (HB6.out.trans (hb.mono HB6.out.size))
  clear hb HB6
  go_wp2_with fail
  go_ret
  exact ⟨rfl, HB7.out⟩
end Go.Proofs.YthemlbefkdmegaaDoor.P
