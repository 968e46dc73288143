/- Several parts together: The contract of lockagelaw06.Made in the printed form: a head by numbers; The contract of lockagelaw16.Request in the printed form: a request by numbers; The contract of key.Split in the form of the printed ones: what fields have for some names, written into a builder; The contracts of key.directs and key.Shared in the form of the printed ones: their closures over one variable; The contract of key.Vary in the form of the printed ones: a set of names, sorted. -/
import Derived.Test.YthmallhjbhphgaaGreatDoorPx1
import Derived.Test.YthmallhjbhphgaaGreatDoorHZB
import Derived.Deep.RegionWith
import Derived.Deep.RegionHeld3
import Derived.Test.YthmallhjbhphgaaGreatDoorPx2
import Derived.Test.YthmallhjbhphgaaGreatDoorIter
import Derived.Maps.OwnIn
import Derived.Sort.KeysCollected
set_option linter.unusedVariables false
set_option linter.unusedSimpArgs false
namespace Go.Proofs.YthmallhjbhphgaaGreatDoor.P
open Go.RowKit Go.Shelf Go.Lib Go.Proofs.YthmallhjbhphgaaGreatDoorW.PrintWords Go.Proofs.YthmallhjbhphgaaGreatDoorW.PrintLast Go.Proofs.YthmallhjbhphgaaGreatDoorW.PrintMore
end Go.Proofs.YthmallhjbhphgaaGreatDoor.P
namespace Go.Proofs.YthmallhjbhphgaaGreatDoor.P
open Go.RowKit Go.Shelf Go.Lib Go.Proofs.YthmallhjbhphgaaGreatDoorW.PrintWords Go.Proofs.YthmallhjbhphgaaGreatDoorW.PrintLast Go.Proofs.YthmallhjbhphgaaGreatDoorW.PrintMore
end Go.Proofs.YthmallhjbhphgaaGreatDoor.P
namespace Go.Proofs.YthmallhjbhphgaaGreatDoor.P
open Go.RowKit Go.Shelf Go.Lib Go.Proofs.YthmallhjbhphgaaGreatDoorW.PrintWords Go.Proofs.YthmallhjbhphgaaGreatDoorW.PrintLast Go.Proofs.YthmallhjbhphgaaGreatDoorW.PrintMore
def key_Split.l1 : Nat → List ByteArray → Nat → ByteArray → Option ByteArray
 | 0, _, _, _ => none
 | k + 1, v, i, out => if i < v.length then (if out.size + (v.getD i ByteArray.empty).size ≤ 100000000000000 then key_Split.l1 k v (i + 1) (out ++ ((v.getD i ByteArray.empty) ++ (⟨#[10]⟩ : ByteArray))) else none) else some out
def key_Split.l0 : Nat → List ByteArray → List S37 → Nat → ByteArray → Option ByteArray
 | 0, _, _, _, _ => none
 | k + 1, ns, fs, i, out => if i < ns.length then (if out.size + (ns.getD i ByteArray.empty).size ≤ 100000000000000 then ((field_Lower.f (ns.getD i ByteArray.empty)).bind fun t => (if t.size ≤ (ns.getD i ByteArray.empty).size then ((field_Get.f k fs (ns.getD i ByteArray.empty)).bind fun v => ((key_Split.l1 k v 0 (out ++ (t ++ (⟨#[58]⟩ : ByteArray)))).bind fun o => (if o.size ≤ 100000000000000 then key_Split.l0 k ns fs (i + 1) (o ++ (⟨#[10]⟩ : ByteArray)) else none))) else none)) else none) else some out
def key_Split.f (k : Nat) (l0 : List ByteArray) (l1 : List S37) : Option ByteArray := key_Split.l0 k l0 l1 0 ⟨#[]⟩
theorem key_Split.mono_l1 : ∀ (k : Nat) (v : List ByteArray) (i : Nat) (out : ByteArray), LeO (key_Split.l1 k v i out) (key_Split.l1 (k + 1) v i out)
 | 0, _, _, _ => fun r h => by simp [key_Split.l1] at h
 | k + 1, v, i, out => by
  have ih := key_Split.mono_l1 k
  unfold key_Split.l1
  exact .ite (.ite (ih _ _ _) (.refl _)) (.refl _)
theorem key_Split.mono_l : ∀ (k : Nat) (ns : List ByteArray) (fs : List S37) (i : Nat) (out : ByteArray), LeO (key_Split.l0 k ns fs i out) (key_Split.l0 (k + 1) ns fs i out)
 | 0, _, _, _, _ => fun r h => by simp [key_Split.l0] at h
 | k + 1, ns, fs, i, out => by
  have ih := key_Split.mono_l k
  unfold key_Split.l0
  exact .ite (.ite (.bind (.refl _) fun t => .ite (.bind (field_Get.mono _ _ _) fun v => .bind (key_Split.mono_l1 _ _ _ _) fun o => .ite (ih _ _ _ _) (.refl _)) (.refl _)) (.refl _)) (.refl _)
theorem key_Split.mono (l0 : List ByteArray) (l1 : List S37) (k : Nat) : LeO (key_Split.f k l0 l1) (key_Split.f (k + 1) l0 l1) := key_Split.mono_l k l0 l1 0 _
set_option maxHeartbeats 3200000 in
set_option maxRecDepth 100000 in
theorem key_Split.calls (k : Nat) (A0 : Option Addr) (c0 : Nat) (l0 : List ByteArray) (A1 : Option Addr) (c1 : Nat) (l1 : List S37) (r : ByteArray) (w : World) (hr0 : Kd.C Kd.string w A0 l0.length l0) (hc0 : l0.length ≤ c0) (hr1 : Kd.C k37 w A1 l1.length l1) (hc1 : l1.length ≤ c1) (h : key_Split.f k l0 l1 = some r) :
  Calls Tryz.prog 22 #[.slice A0 l0.length c0, .slice A1 l1.length c1] w fun e w' => e = .returned (.string r) ∧ Below w.heap.size w w' := by
 unfold key_Split.f at h
 obtain ⟨bb, hbb⟩ : ∃ bb, bb = w.heap.size := ⟨_, rfl⟩
 have hl0 : l0.length ≤ 9223372036854775807 := Kd.C_max hr0
 have HL0 := Lib.hid hl0
 have HR0 := Lib.hid hr0
 have HR1 := Lib.hid hr1
 have HC1 := Lib.hid hc1
 have HL := Lib.hid h
 have HN := Lib.hid (H.BW.new w)
 have HB0 := Lib.hid (below_alloc (Below.refl w.heap.size w) (.cells #[.pointer none, .slice none 0 0] 72))
 clear hr0 hr1 hc1 h hl0 hc0
 go_enter Tryz.func22, Tryz.ntmps22
 go_wp2_with fail
 obtain ⟨W1, hW1⟩ : ∃ W1, W1 = w.alloc (.cells #[.pointer none, .slice none 0 0] 72) := ⟨_, rfl⟩
 rw [← hW1] at HN HB0 ⊢
 rw [← hbb] at HN HB0
 simp only [← hbb]
 have HBB := Lib.hid hbb
 clear hW1 hbb
 go_loopw [12] (fun v wr => ∃ (kq i : Nat) (out : ByteArray), v = .int .i64 i ∧ i ≤ l0.length ∧ Hid (key_Split.l0 kq l0 l1 i out = some r) ∧ Hid (H.BW bb out wr) ∧ Hid (Below bb w wr)) (fun v _ => l0.length - (RowKit.intOf v).toNat)
 case atStart => exact ⟨k, 0, ⟨#[]⟩, rfl, Nat.zero_le _, HL, HN, HB0⟩
 case round =>
  obtain ⟨kq, i, out, rfl, hi, hl, hB, hbl⟩ := hrel
  have h := hl.out
  cases kq with
  | zero => simp [key_Split.l0] at h
  | succ kq =>
  unfold key_Split.l0 at h
  have hI : (i : Int) ≤ 9223372036854775806 ∨ i = l0.length := by have := HL0.out; omega
  have HI := Lib.hid hI
  clear hI
  split at h
  case isFalse hs =>
   injection h with h
   subst h
   have K := Lib.hid (H.BW.text hB.out)
   go_wp2_with fail
   refine K.out.mono ?_; rintro e w2 ⟨rfl, _, hb2, _⟩
   have HB2 := Lib.hid (hbl.out.trans hb2)
   clear hb2
   go_wp2_with fail
   go_ret
   exact ⟨rfl, by rw [← HBB.out]; exact HB2.out⟩
  case isTrue hs =>
   split at h
   case isFalse => cases h
   case isTrue hsz =>
   obtain ⟨L, hL, h⟩ := Option.bind_eq_some_iff.1 h
   split at h
   case isFalse => cases h
   case isTrue hLs =>
   obtain ⟨v, hv, h⟩ := Option.bind_eq_some_iff.1 h
   obtain ⟨o, ho, h⟩ := Option.bind_eq_some_iff.1 h
   split at h
   case isFalse => cases h
   case isTrue hos =>
   obtain ⟨ad, hA, hcell⟩ := Kd.at_string HR0.out (i : Int) (by omega) (by omega)
   subst hA
   have hx : rdOf ByteArray.empty l0 (i : Int) = l0.getD i ByteArray.empty := by simp [rdOf]
   have hlw : bb ≤ wr.heap.size := by have := hbl.out.size; have := HBB.out; omega
   rw [hx, Int.toNat_natCast] at hcell
   have hcell2 := (hbl.out.cell (by have := World.block_lt_of_cell? w _ hcell; rw [HBB.out]; exact this)).trans hcell
   clear hcell hx
   generalize l0.getD i ByteArray.empty = x at hL hv hcell2 hsz hLs
   have KL := Lib.hid (field_Lower.calls x L wr hL)
   have HO := Lib.hid ho
   have HH := Lib.hid h
   have HV := Lib.hid hv
   have HSZ : Hid (out.size + x.size ≤ 100000000000000 ∧ L.size ≤ x.size ∧ o.size ≤ 100000000000000) := Lib.hid ⟨hsz, hLs, hos⟩
   have hadd : (L ++ (⟨#[58]⟩ : ByteArray)).size = L.size + 1 := by rw [ByteArray.size_append]; rfl
   have s1 : L.size + 1 ≤ 9223372036854775807 := by omega
   clear h ho hv hsz hLs hos hL
   go_wp2_with fail
   refine KL.out.mono ?_; rintro e w2 ⟨rfl, hb2⟩
   have HB2 := Lib.hid (H.BW.below hB.out hb2)
   have HBL2 := Lib.hid (hbl.out.trans (hb2.mono (by have := HBB.out; omega)))
   clear hb2
   have KW := Lib.hid (H.BW.write HB2.out (L ++ (⟨#[58]⟩ : ByteArray)) (by have := HSZ.out; omega))
   go_wp2_with fail
   refine KW.out.mono ?_; rintro e w3 ⟨rfl, hB3, hb3, _⟩
   have HB3 := Lib.hid hB3
   have HBL3 := Lib.hid (HBL2.out.trans hb3)
   clear hB3 hb3 KW KL HB2
   have KG := Lib.hid (field_Get.calls kq A1 c1 l1 x v w3 (Kd.C_below HR1.out (by have := HBL3.out; rw [HBB.out] at this; exact this)) HC1.out HV.out)
   go_wp2_with fail
   refine KG.out.mono ?_; rintro e w4 ⟨vg, rfl, hR4, hb4⟩
   obtain ⟨Ag, cg, rfl⟩ := Kd.R_slice hR4
   have hvl : v.length ≤ 9223372036854775807 := by
    obtain ⟨_, _, hq⟩ := Kd.R_reads' hR4
    exact Kd.C_max hq
   have HVL := Lib.hid hvl
   have HB4 := Lib.hid (H.BW.below HB3.out hb4)
   have hl3 : bb ≤ w3.heap.size := by have := HBL3.out.size; have := HBB.out; omega
   have HBL4 := Lib.hid (HBL3.out.trans (hb4.mono hl3))
   obtain ⟨B0, hB0⟩ : ∃ B0, B0 = w3.heap.size := ⟨_, rfl⟩
   rw [← hB0] at hR4
   have HR4 := Lib.hid hR4
   clear hR4 hb4 KG HB3 hvl hB0 hl3
   go_wp2_with fail
   go_loopw [24] (fun q wr2 => ∃ (k2 j : Nat) (o2 : ByteArray), q = .int .i64 j ∧ j ≤ v.length ∧ Hid (key_Split.l1 k2 v j o2 = some o) ∧ Hid (H.BW bb o2 wr2) ∧ Hid (Below bb w wr2) ∧ Hid (Kd.string.R 9 wr2 B0 (fun _ => True) (.slice Ag v.length cg) v)) (fun q _ => v.length - (RowKit.intOf q).toNat)
   case atStart => exact ⟨kq, 0, _, rfl, Nat.zero_le _, HO, HB4, HBL4, HR4⟩
   case round =>
    obtain ⟨k2, j, o2, rfl, hj, hl2, hB5, hbl5, hR5⟩ := hrel
    have h := hl2.out
    cases k2 with
    | zero => simp [key_Split.l1] at h
    | succ k2 =>
    unfold key_Split.l1 at h
    split at h
    case isFalse hs2 =>
     injection h with h
     subst h
     have K := Lib.hid (H.BW.write hB5.out (⟨#[10]⟩ : ByteArray) (by have := HSZ.out; have e : (⟨#[10]⟩ : ByteArray).size = 1 := rfl; omega))
     go_wp2_with fail
     refine K.out.mono ?_; rintro e w6 ⟨rfl, hB6, hb6, _⟩
     have HB6 := Lib.hid hB6
     have HBL6 := Lib.hid (hbl5.out.trans hb6)
     clear hB6 hb6
     go_wp2_with fail
     rw [H.wrap_step (m := l0.length) hs HL0.out]
     exact ⟨⟨kq, i + 1, _, rfl, hs, HH, HB6, HBL6⟩, H.less_step hs⟩
    case isTrue hs2 =>
     split at h
     case isFalse => cases h
     case isTrue hz2 =>
     obtain ⟨_, _, hC5⟩ := Kd.R_reads' hR5.out
     obtain ⟨ad5, hA5, hcell5⟩ := Kd.at_string hC5 (j : Int) (by omega) (by omega)
     subst hA5
     have hx5 : rdOf ByteArray.empty v (j : Int) = v.getD j ByteArray.empty := by simp [rdOf]
     rw [hx5, Int.toNat_natCast] at hcell5
     generalize v.getD j ByteArray.empty = y at h hz2 hcell5
     have H2 := Lib.hid h
     have s5 : y.size + 1 ≤ 9223372036854775807 := by omega
     have K := Lib.hid (H.BW.write hB5.out (y ++ (⟨#[10]⟩ : ByteArray)) (by have e : (⟨#[10]⟩ : ByteArray).size = 1 := rfl; rw [ByteArray.size_append]; omega))
     clear h hz2 hC5 hx5
     go_wp2_with fail
     refine K.out.mono ?_; rintro e w6 ⟨rfl, hB6, hb6, ho6⟩
     have HB6 := Lib.hid hB6
     have HBL6 := Lib.hid (hbl5.out.trans hb6)
     have HR6 := Lib.hid (H.BW.row hB5.out ho6 hR5.out)
     clear hB6 hb6 ho6
     go_wp2_with fail
     rw [H.wrap_step (m := v.length) hs2 HVL.out]
     exact ⟨⟨k2, j + 1, _, rfl, hs2, H2, HB6, HBL6, HR6⟩, H.less_step hs2⟩
end Go.Proofs.YthmallhjbhphgaaGreatDoor.P
namespace Go.Proofs.YthmallhjbhphgaaGreatDoor.P
open Go.RowKit Go.Shelf Go.Lib Go.Proofs.YthmallhjbhphgaaGreatDoorW.PrintWords Go.Proofs.YthmallhjbhphgaaGreatDoorW.PrintLast Go.Proofs.YthmallhjbhphgaaGreatDoorW.PrintMore
def anyO (f : ByteArray → Option Bool) : List ByteArray → Option Bool
 | [] => some false
 | x :: l => (f x).bind fun b => if b = true then some true else anyO f l
theorem anyO_drop (f : ByteArray → Option Bool) (l : List ByteArray) (k : Nat) (h : k < l.length) : anyO f (l.drop k) = (f (l.getD k ByteArray.empty)).bind fun b => if b = true then some true else anyO f (l.drop (k + 1)) := by
 rw [List.drop_eq_getElem_cons h, anyO]
 have : l.getD k ByteArray.empty = l[k] := by rw [List.getD_eq_getElem?_getD, List.getElem?_eq_getElem h]; rfl
 rw [this]
theorem anyO_mono {f g : ByteArray → Option Bool} (h : ∀ x, LeO (f x) (g x)) : ∀ l, LeO (anyO f l) (anyO g l)
 | [] => .refl _
 | x :: l => by
  unfold anyO
  exact .bind (h x) fun b => .ite (.refl _) (anyO_mono h l)
set_option maxHeartbeats 1600000 in
theorem idx_directs (f : ByteArray → Option Bool) (l : List ByteArray) (A : Option Addr) (c : Nat) (w : World) (b : Nat) (r : Bool) (hr : Kd.C Kd.string w A l.length l) (h : anyO f l = some r)
  (hF : ∀ x v, f x = some v → ∀ W, Below w.heap.size w W → Calls Tryz.prog 47 #[.string x, .pointer (some ⟨b, 0, none⟩)] W fun e w' => e = .returned (.bool v) ∧ Below W.heap.size W w') :
  Calls Tryz.prog 49 #[.slice A l.length c, .func (.func 47) #[] #[.pointer (some ⟨b, 0, none⟩)]] w fun e w' => (∃ i : Int, e = .returned (.int .i64 i) ∧ decide (0 ≤ i) = r) ∧ Below w.heap.size w w' := by
 have HMX := Lib.hid (Kd.C_max hr)
 have HR := Lib.hid hr
 have HA := Lib.hid h
 have HF := Lib.hid hF
 clear hr h hF
 go_enter Tryz.func49, Tryz.ntmps49
 go_wp2
 go_loopw [5, 8] (fun _ i wr => ∃ k : Nat, k ≤ l.length ∧ i = .int .i64 k ∧ Hid (anyO f (l.drop k) = some r) ∧ Hid (Below w.heap.size w wr)) (fun _ i _ => l.length - (RowKit.intOf i).toNat)
 case atStart => exact ⟨0, Nat.zero_le _, rfl, HA, Lib.hid (Below.refl _ _)⟩
 case round =>
  obtain ⟨k, hk, rfl, hp, hB⟩ := hrel
  by_cases hlt : k < l.length
  ·obtain ⟨ad, rfl, hcell⟩ := Kd.at_string HR.out (k : Int) (by omega) (by omega)
   have hcell2 := (hB.out.cell (World.block_lt_of_cell? w _ hcell)).trans hcell
   clear hcell
   rw [Int.toNat_natCast] at hcell2
   have hx : rdOf ByteArray.empty l (k : Int) = l.getD k ByteArray.empty := by simp [rdOf]
   rw [hx] at hcell2
   clear hx
   have e := hp.out
   rw [anyO_drop f l k hlt] at e
   obtain ⟨v, hv, e⟩ := Option.bind_eq_some_iff.1 e
   generalize l.getD k ByteArray.empty = x at hcell2 hv
   have K := Lib.hid (HF.out x v hv wr hB.out)
   clear hv
   cases v with
   | true =>
    rw [if_pos rfl] at e
    injection e with e
    have HE := Lib.hid e
    clear e
    go_wp2_with fail
    refine K.out.mono ?_; rintro e w' ⟨rfl, hB2⟩
    go_wp2_with fail
    go_ret
    exact ⟨⟨(k : Int), rfl, by rw [← HE.out]; exact decide_eq_true (by omega)⟩, hB.out.trans (hB2.mono hB.out.size)⟩
   | false =>
    rw [if_neg (by decide)] at e
    have HE := Lib.hid e
    clear e
    go_wp2_with fail
    refine K.out.mono ?_; rintro e w' ⟨rfl, hB2⟩
    have hn := HMX.out
    go_wp2_with fail
    go_roundw
    case rel => exact ⟨k + 1, by omega, by go_num, HE, Lib.hid (hB.out.trans (hB2.mono hB.out.size))⟩
    case measure => simp [RowKit.intOf]; omega
  ·have e := hp.out
   rw [List.drop_of_length_le (by omega)] at e
   injection e with e
   have HE := Lib.hid e
   clear e
   go_wp2
   go_ret
   exact ⟨⟨-1, rfl, by rw [← HE.out]; rfl⟩, hB.out⟩
set_option maxHeartbeats 1600000 in
theorem any_directs (f : ByteArray → Option Bool) (l : List ByteArray) (A : Option Addr) (c : Nat) (w : World) (b : Nat) (r : Bool) (hr : Kd.C Kd.string w A l.length l) (h : anyO f l = some r)
  (hF : ∀ x v, f x = some v → ∀ W, Below w.heap.size w W → Calls Tryz.prog 47 #[.string x, .pointer (some ⟨b, 0, none⟩)] W fun e w' => e = .returned (.bool v) ∧ Below W.heap.size W w') :
  Calls Tryz.prog 34 #[.slice A l.length c, .func (.func 47) #[] #[.pointer (some ⟨b, 0, none⟩)]] w fun e w' => e = .returned (.bool r) ∧ Below w.heap.size w w' := by
 have K := Lib.hid (idx_directs f l A c w b r hr h hF)
 clear hr h hF
 go_enter Tryz.func34, Tryz.ntmps34
 go_wp2_with fail
 refine K.out.mono ?_; rintro e w' ⟨⟨i, rfl, hi⟩, hB⟩
 subst hi
 go_wp2_with fail
 go_ret
 exact ⟨rfl, hB⟩
set_option maxHeartbeats 1600000 in
theorem idx_shared (f : ByteArray → Option Bool) (l : List ByteArray) (A : Option Addr) (c : Nat) (w : World) (b : Nat) (r : Bool) (hr : Kd.C Kd.string w A l.length l) (h : anyO f l = some r)
  (hF : ∀ x v, f x = some v → ∀ W, Below w.heap.size w W → Calls Tryz.prog 31 #[.string x, .pointer (some ⟨b, 0, none⟩)] W fun e w' => e = .returned (.bool v) ∧ Below W.heap.size W w') :
  Calls Tryz.prog 49 #[.slice A l.length c, .func (.func 31) #[] #[.pointer (some ⟨b, 0, none⟩)]] w fun e w' => (∃ i : Int, e = .returned (.int .i64 i) ∧ decide (0 ≤ i) = r) ∧ Below w.heap.size w w' := by
 have HMX := Lib.hid (Kd.C_max hr)
 have HR := Lib.hid hr
 have HA := Lib.hid h
 have HF := Lib.hid hF
 clear hr h hF
 go_enter Tryz.func49, Tryz.ntmps49
 go_wp2
 go_loopw [5, 8] (fun _ i wr => ∃ k : Nat, k ≤ l.length ∧ i = .int .i64 k ∧ Hid (anyO f (l.drop k) = some r) ∧ Hid (Below w.heap.size w wr)) (fun _ i _ => l.length - (RowKit.intOf i).toNat)
 case atStart => exact ⟨0, Nat.zero_le _, rfl, HA, Lib.hid (Below.refl _ _)⟩
 case round =>
  obtain ⟨k, hk, rfl, hp, hB⟩ := hrel
  by_cases hlt : k < l.length
  ·obtain ⟨ad, rfl, hcell⟩ := Kd.at_string HR.out (k : Int) (by omega) (by omega)
   have hcell2 := (hB.out.cell (World.block_lt_of_cell? w _ hcell)).trans hcell
   clear hcell
   rw [Int.toNat_natCast] at hcell2
   have hx : rdOf ByteArray.empty l (k : Int) = l.getD k ByteArray.empty := by simp [rdOf]
   rw [hx] at hcell2
   clear hx
   have e := hp.out
   rw [anyO_drop f l k hlt] at e
   obtain ⟨v, hv, e⟩ := Option.bind_eq_some_iff.1 e
   generalize l.getD k ByteArray.empty = x at hcell2 hv
   have K := Lib.hid (HF.out x v hv wr hB.out)
   clear hv
   cases v with
   | true =>
    rw [if_pos rfl] at e
    injection e with e
    have HE := Lib.hid e
    clear e
    go_wp2_with fail
    refine K.out.mono ?_; rintro e w' ⟨rfl, hB2⟩
    go_wp2_with fail
    go_ret
    exact ⟨⟨(k : Int), rfl, by rw [← HE.out]; exact decide_eq_true (by omega)⟩, hB.out.trans (hB2.mono hB.out.size)⟩
   | false =>
    rw [if_neg (by decide)] at e
    have HE := Lib.hid e
    clear e
    go_wp2_with fail
    refine K.out.mono ?_; rintro e w' ⟨rfl, hB2⟩
    have hn := HMX.out
    go_wp2_with fail
    go_roundw
    case rel => exact ⟨k + 1, by omega, by go_num, HE, Lib.hid (hB.out.trans (hB2.mono hB.out.size))⟩
    case measure => simp [RowKit.intOf]; omega
  ·have e := hp.out
   rw [List.drop_of_length_le (by omega)] at e
   injection e with e
   have HE := Lib.hid e
   clear e
   go_wp2
   go_ret
   exact ⟨⟨-1, rfl, by rw [← HE.out]; rfl⟩, hB.out⟩
set_option maxHeartbeats 1600000 in
theorem any_shared (f : ByteArray → Option Bool) (l : List ByteArray) (A : Option Addr) (c : Nat) (w : World) (b : Nat) (r : Bool) (hr : Kd.C Kd.string w A l.length l) (h : anyO f l = some r)
  (hF : ∀ x v, f x = some v → ∀ W, Below w.heap.size w W → Calls Tryz.prog 31 #[.string x, .pointer (some ⟨b, 0, none⟩)] W fun e w' => e = .returned (.bool v) ∧ Below W.heap.size W w') :
  Calls Tryz.prog 34 #[.slice A l.length c, .func (.func 31) #[] #[.pointer (some ⟨b, 0, none⟩)]] w fun e w' => e = .returned (.bool r) ∧ Below w.heap.size w w' := by
 have K := Lib.hid (idx_shared f l A c w b r hr h hF)
 clear hr h hF
 go_enter Tryz.func34, Tryz.ntmps34
 go_wp2_with fail
 refine K.out.mono ?_; rintro e w' ⟨⟨i, rfl, hi⟩, hB⟩
 subst hi
 go_wp2_with fail
 go_ret
 exact ⟨rfl, hB⟩
def ccB : ByteArray := ⟨#[67, 97, 99, 104, 101, 45, 67, 111, 110, 116, 114, 111, 108]⟩
def key_directs.f (k : Nat) (l0 : List S37) (l1 : List ByteArray) : Option Bool := (key_items.f k l0 (⟨#[67, 97, 99, 104, 101, 45, 67, 111, 110, 116, 114, 111, 108]⟩ : ByteArray)).bind fun its => anyO (fun x => slices_Contains_string_string.f k l1 x) its
theorem key_directs.mono (l0 : List S37) (l1 : List ByteArray) (k : Nat) : LeO (key_directs.f k l0 l1) (key_directs.f (k + 1) l0 l1) := by
 unfold key_directs.f
 exact .bind (key_items.mono _ _ _) fun its => anyO_mono (fun x => slices_Contains_string_string.mono _ _ _) its
set_option maxHeartbeats 1600000 in
theorem directs1_any (k : Nat) (ns : List ByteArray) (A : Option Addr) (c : Nat) (x : ByteArray) (v : Bool) (w : World) (b : Nat) (hc : w.cell? ⟨b, 0, none⟩ = some (.slice A ns.length c)) (hr : Kd.C Kd.string w A ns.length ns) (hn : ns.length ≤ c) (h : slices_Contains_string_string.f k ns x = some v) :
  Calls Tryz.prog 47 #[.string x, .pointer (some ⟨b, 0, none⟩)] w fun e w' => e = .returned (.bool v) ∧ Below w.heap.size w w' := by
 have K := Lib.hid (slices_Contains_string_string.calls k A c ns x v w hr hn h)
 clear hr h hn
 go_enter Tryz.func47, Tryz.ntmps47
 go_wp2_with fail
 refine K.out.mono ?_; rintro e w' ⟨rfl, hd⟩
 have HD := Lib.hid hd
 clear hd
 go_wp2_with fail
 go_ret
 exact ⟨rfl, HD.out.below⟩
set_option maxHeartbeats 1600000 in
theorem shared1_any (k : Nat) (fs : List S37) (A : Option Addr) (c : Nat) (x : ByteArray) (v : List ByteArray) (w : World) (b : Nat) (hc : w.cell? ⟨b, 0, none⟩ = some (.slice A fs.length c)) (hr : Kd.C k37 w A fs.length fs) (hn : fs.length ≤ c) (h : field_Get.f k fs x = some v) :
  Calls Tryz.prog 31 #[.string x, .pointer (some ⟨b, 0, none⟩)] w fun e w' => e = .returned (.bool (decide (0 < v.length))) ∧ Below w.heap.size w w' := by
 have K := Lib.hid (field_Get.calls k A c fs x v w hr hn h)
 clear hr h hn
 go_enter Tryz.func31, Tryz.ntmps31
 go_wp2_with fail
 refine K.out.mono ?_; rintro e w' ⟨v0, rfl, hR, hb⟩
 obtain ⟨A', c', rfl⟩ := Kd.R_slice hR
 have HB := Lib.hid hb
 clear hb hR
 go_wp2_with fail
 go_ret
 exact ⟨rfl, HB.out⟩
set_option maxHeartbeats 1600000 in
set_option maxRecDepth 100000 in
theorem key_directs.calls (k : Nat) (A0 : Option Addr) (c0 : Nat) (l0 : List S37) (A1 : Option Addr) (c1 : Nat) (l1 : List ByteArray) (r : Bool) (w : World) (hr0 : Kd.C k37 w A0 l0.length l0) (hc0 : l0.length ≤ c0) (hr1 : Kd.C Kd.string w A1 l1.length l1) (hc1 : l1.length ≤ c1) (h : key_directs.f k l0 l1 = some r) :
  Calls Tryz.prog 33 #[.slice A0 l0.length c0, .slice A1 l1.length c1] w fun e w' => e = .returned (.bool r) ∧ Below w.heap.size w w' := by
 unfold key_directs.f at h
 obtain ⟨its, hits, h⟩ := Option.bind_eq_some_iff.1 h
 obtain ⟨W1, hW1⟩ : ∃ W1, W1 = w.alloc (.cells #[.slice A1 l1.length c1] 27) := ⟨_, rfl⟩
 obtain ⟨b, hb⟩ : ∃ b, b = w.heap.size := ⟨_, rfl⟩
 have hB1 : Below b w W1 := by rw [hW1, hb]; exact below_alloc (Below.refl w.heap.size w) _
 have hs1 : W1.heap.size = b + 1 := by rw [hW1, hb]; simp
 have hcell : W1.cell? ⟨b, 0, none⟩ = some (.slice A1 l1.length c1) := by rw [hW1, hb]; exact H.cell_of_heap (heap_alloc_new w _)
 have KI := Lib.hid (key_items.calls k A0 c0 l0 _ its W1 (Kd.C_below hr0 (by rw [← hb]; exact hB1)) hc0 hits)
 have HR1 := Lib.hid (Kd.C_below hr1 (by rw [← hb]; exact hB1))
 have HCL := Lib.hid hcell
 have HC1 := Lib.hid hc1
 have HH := Lib.hid h
 have HB1 := Lib.hid hB1
 have HS1 := Lib.hid hs1
 have HBB := Lib.hid hb
 clear hits hr0 hc0 hr1 hc1 h hcell hB1 hs1
 go_enter Tryz.func33, Tryz.ntmps33
 go_wp2_with fail
 simp only [← hW1, ← hb]
 clear hW1 hb
 refine KI.out.mono ?_; rintro e w2 ⟨vi, rfl, hR2, hb2⟩
 obtain ⟨Ai, ci, rfl⟩ := Kd.R_slice hR2
 obtain ⟨_, _, hC2⟩ := Kd.R_reads' hR2
 have HB2 := Lib.hid hb2
 have KA := Lib.hid (any_directs _ its Ai ci w2 b r hC2 HH.out (fun x v hv W hW => by
  have hWB : Below W1.heap.size W1 W := HB2.out.trans (hW.mono HB2.out.size)
  exact directs1_any k l1 A1 c1 x v W b ((hWB.cell (p := ⟨b, 0, none⟩) (by have := HS1.out; show b < _; omega)).trans HCL.out) (Kd.C_below HR1.out hWB) HC1.out hv))
 clear hR2 hC2 hb2 KI
 go_wp2_with fail
 refine KA.out.mono ?_; rintro e w3 ⟨rfl, hb3⟩
 have HB3 := Lib.hid (HB1.out.trans ((HB2.out.trans (hb3.mono HB2.out.size)).mono (by have := HS1.out; omega)))
 clear hb3
 go_wp2_with fail
 go_ret
 exact ⟨rfl, by rw [← HBB.out]; exact HB3.out⟩
def noStore : List ByteArray := [(⟨#[110, 111, 45, 115, 116, 111, 114, 101]⟩ : ByteArray)]
def ownNames : List ByteArray := [(⟨#[65, 117, 116, 104, 111, 114, 105, 122, 97, 116, 105, 111, 110]⟩ : ByteArray), (⟨#[67, 111, 111, 107, 105, 101]⟩ : ByteArray), (⟨#[82, 97, 110, 103, 101]⟩ : ByteArray)]
def getB : ByteArray := ⟨#[71, 69, 84]⟩
def key_Shared.f (k : Nat) (m t : ByteArray) (st : Int) (rs : ByteArray) (mi : Int) (fs : List S37) (body : ByteArray) : Option Bool :=
 if m = getB then (if body.size = 0 then ((key_directs.f k fs noStore).bind fun d => (if d = true then some false else ((anyO (fun x => (field_Get.f k fs x).bind fun v => some (decide (0 < v.length))) ownNames).bind fun o => some (!o)))) else some false) else some false
theorem key_Shared.mono (m t : ByteArray) (st : Int) (rs : ByteArray) (mi : Int) (fs : List S37) (body : ByteArray) (k : Nat) : LeO (key_Shared.f k m t st rs mi fs body) (key_Shared.f (k + 1) m t st rs mi fs body) := by
 unfold key_Shared.f
 exact .ite (.ite (.bind (key_directs.mono _ _ _) fun d => .ite (.refl _) (.bind (anyO_mono (fun x => .bind (field_Get.mono _ _ _) fun v => .refl _) _) fun o => .refl _)) (.refl _)) (.refl _)
theorem eq_get {m : ByteArray} (h : m = getB) : (m.toList == [71, 69, 84]) = true := by subst h; decide +kernel
theorem ne_get {m : ByteArray} (h : m ≠ getB) : (m.toList == [71, 69, 84]) = false := by
 rw [beq_eq_false_iff_ne]
 intro e
 refine h (H.ba_ext ?_)
 rw [← Lib.toList_data, e]
 rfl
theorem eq_nil {m : ByteArray} (h : m.size = 0) : (m.toList == []) = true := by
 rw [beq_iff_eq, Lib.toList_data]
 exact List.eq_nil_of_length_eq_zero (by simpa using h)
theorem ne_nil {m : ByteArray} (h : m.size ≠ 0) : (m.toList == []) = false := by
 rw [beq_eq_false_iff_ne, Lib.toList_data]
 intro e
 exact h (by have := congrArg List.length e; simpa using this)
set_option maxHeartbeats 3200000 in
set_option maxRecDepth 100000 in
theorem key_Shared.calls (k : Nat) (m t : ByteArray) (st : Int) (rs : ByteArray) (mi : Int) (A0 : Option Addr) (c0 : Nat) (fs : List S37) (body : ByteArray) (r : Bool) (w : World) (hr0 : Kd.C k37 w A0 fs.length fs) (hc0 : fs.length ≤ c0) (h : key_Shared.f k m t st rs mi fs body = some r) :
  Calls Tryz.prog 15 #[.agg #[.string m, .string t, .int .i64 st, .string rs, .int .i64 mi, .slice A0 fs.length c0, .string body]] w fun e w' => e = .returned (.bool r) ∧ Below w.heap.size w w' := by
 have huM := Tryz.underlying26
 obtain ⟨b0, hb0⟩ : ∃ b0, b0 = w.heap.size := ⟨_, rfl⟩
 have HBB := Lib.hid hb0
 have HR0 := Lib.hid hr0
 have HC0 := Lib.hid hc0
 have HH := Lib.hid h
 clear hr0 hc0 h hb0
 go_enter Tryz.func15, Tryz.ntmps15
 go_upto_region 2 with (first | ((with_reducible refine gate_dst (N := 1) rfl ?_); refine box_event ?hg (N := 1) ?hd (cs := #[.string m, .string t, .int .i64 st, .string rs, .int .i64 mi, .slice A0 fs.length c0, .string body]) (t := 26) ?hr ?_; (case hd => rfl); (case hg => rfl); (case hr => first | (go_simp; done) | (go_simp; rfl)); intro gb hg w1 hbox hbw; have hz5 : w1.cell? ⟨gb, 5, none⟩ = some (.slice A0 fs.length c0) := (blk_cell hbox 5).trans rfl; have HBX := Lib.hid hbox; have HBW := Lib.hid hbw; have HG := Lib.hid hg; clear hbox hbw hg))
 obtain ⟨W2, hW2⟩ : ∃ W2, W2 = w1.alloc (.cells #[.slice A0 fs.length c0] 22) := ⟨_, rfl⟩
 obtain ⟨b3, hb3⟩ : ∃ b3, b3 = w1.heap.size := ⟨_, rfl⟩
 have hB2 : Below w1.heap.size w1 W2 := by rw [hW2]; exact below_alloc (Below.refl w1.heap.size w1) _
 have hs2 : W2.heap.size = b3 + 1 := by rw [hW2, hb3]; simp
 have hc3 : W2.cell? ⟨b3, 0, none⟩ = some (.slice A0 fs.length c0) := by rw [hW2, hb3]; exact H.cell_of_heap (heap_alloc_new w1 _)
 have HBX2 := Lib.hid (blk_below HBX.out hB2)
 have HB2 := Lib.hid (HBW.out.trans (hB2.mono HBW.out.size))
 have HR2 := Lib.hid (Kd.C_below HR0.out HB2.out)
 have HC3 := Lib.hid hc3
 have HS2 := Lib.hid hs2
 rw [← hW2]
 simp only [← hb3]
 clear hW2 hb3 hz5 hc3 hs2 hB2
 have hz0 : W2.cell? ⟨gb, 0, none⟩ = some (.string m) := (blk_cell HBX2.out 0).trans rfl
 have hz6 : W2.cell? ⟨gb, 6, none⟩ = some (.string body) := (blk_cell HBX2.out 6).trans rfl
 have hz3 := HC3.out
 have h := HH.out
 clear HH
 unfold key_Shared.f at h
 by_cases hm : m = getB
 ·rw [if_pos hm] at h
  have em := eq_get hm
  clear hm
  by_cases hbd : body.size = 0
  ·rw [if_pos hbd] at h
   have eb := eq_nil hbd
   clear hbd
   obtain ⟨d, hd, h⟩ := Option.bind_eq_some_iff.1 h
   have hrow := own_row W2 noStore 1 (by decide) (by decide)
   obtain ⟨_, _, hCn⟩ := Kd.R_reads' hrow
   have hBn := below_alloc (Below.refl W2.heap.size W2) (.cells (Lib.cellsOf noStore 1) 9)
   have KD := Lib.hid (key_directs.calls k A0 c0 fs (some ⟨W2.heap.size, 0, none⟩) 1 noStore d (W2.alloc (.cells (Lib.cellsOf noStore 1) 9)) (Kd.C_below HR2.out hBn) HC0.out hCn (by decide) hd)
   have HBN := Lib.hid hBn
   have HH := Lib.hid h
   clear h hrow hCn hBn hd
   go_wp2_with fail
   refine KD.out.mono ?_; rintro e w4 ⟨rfl, hb4⟩
   have HB4 := Lib.hid (HBN.out.trans (hb4.mono HBN.out.size))
   clear hb4 KD
   have h := HH.out
   clear HH
   cases d with
   | true =>
    rw [if_pos rfl] at h
    injection h with h
    subst h
    go_wp2_with fail
    go_ret
    exact ⟨rfl, HB2.out.trans (HB4.out.mono HB2.out.size)⟩
   | false =>
    rw [if_neg (by decide)] at h
    obtain ⟨o, ho, h⟩ := Option.bind_eq_some_iff.1 h
    injection h with h
    have hrow := own_row w4 ownNames 3 (by decide) (by decide)
    obtain ⟨_, _, hCn⟩ := Kd.R_reads' hrow
    have hBn := below_alloc (Below.refl w4.heap.size w4) (.cells (Lib.cellsOf ownNames 3) 9)
    have HB5 := Lib.hid (HB4.out.trans (hBn.mono HB4.out.size))
    have KA := Lib.hid (any_shared _ ownNames (some ⟨w4.heap.size, 0, none⟩) 3 (w4.alloc (.cells (Lib.cellsOf ownNames 3) 9)) b3 o hCn ho (fun x v hv W hW => by
     obtain ⟨v2, hv2, hv3⟩ := Option.bind_eq_some_iff.1 hv
     injection hv3 with hv3
     subst hv3
     have hWB : Below W2.heap.size W2 W := HB5.out.trans (hW.mono HB5.out.size)
     exact shared1_any k fs A0 c0 x v2 W b3 ((hWB.cell (p := ⟨b3, 0, none⟩) (by have := HS2.out; show b3 < _; omega)).trans HC3.out) (Kd.C_below HR2.out hWB) HC0.out hv2))
    subst h
    clear hrow hCn hBn ho
    go_wp2_with fail
    refine KA.out.mono ?_; rintro e w5 ⟨rfl, hb5⟩
    have HB6 := Lib.hid (HB5.out.trans (hb5.mono HB5.out.size))
    clear hb5
    go_wp2_with fail
    go_ret
    exact ⟨rfl, HB2.out.trans (HB6.out.mono HB2.out.size)⟩
  ·rw [if_neg hbd] at h
   have eb := ne_nil hbd
   clear hbd
   injection h with h
   subst h
   go_wp2_with fail
   go_ret
   exact ⟨rfl, HB2.out⟩
 ·rw [if_neg hm] at h
  have em := ne_get hm
  clear hm
  injection h with h
  subst h
  go_wp2_with fail
  go_ret
  exact ⟨rfl, HB2.out⟩
end Go.Proofs.YthmallhjbhphgaaGreatDoor.P
namespace Go.Proofs.YthmallhjbhphgaaGreatDoor.P
open Go.RowKit Go.Shelf Go.Lib Go.Maps Go.Proofs.YthmallhjbhphgaaGreatDoorW.PrintWords Go.Proofs.YthmallhjbhphgaaGreatDoorW.PrintLast Go.Proofs.YthmallhjbhphgaaGreatDoorW.PrintMore
def addS (s : List UInt8) : List (List UInt8) → List (List UInt8)
 | [] => [s]
 | x :: l => if x = s then x :: l else if s ≤ x then s :: x :: l else x :: addS s l
def varyS (l : List (List UInt8)) : List (List UInt8) := l.foldl (fun acc s => addS s acc) []
theorem addS_mem (s : List UInt8) : ∀ (l : List (List UInt8)) (y : List UInt8), y ∈ addS s l ↔ y = s ∨ y ∈ l
 | [], y => by simp [addS]
 | x :: l, y => by
  have ih := addS_mem s l y
  unfold addS
  split
  ·rename_i h
   subst h
   simp
  ·split
   ·simp
   ·rw [List.mem_cons, ih, List.mem_cons]
    constructor
    ·rintro (h | h | h) <;> simp [h]
    ·rintro (h | h | h) <;> simp [h]
theorem addS_sorted (s : List UInt8) : ∀ (l : List (List UInt8)), l.Pairwise (· < ·) → (addS s l).Pairwise (· < ·)
 | [], _ => by simp [addS]
 | x :: l, h => by
  rw [List.pairwise_cons] at h
  have ih := addS_sorted s l h.2
  unfold addS
  split
  ·exact List.pairwise_cons.2 h
  ·rename_i hne
   split
   ·rename_i hle
    have hlt : s < x := by
     rcases List.le_iff_lt_or_eq.1 hle with h | h
     ·exact h
     ·exact absurd h.symm hne
    refine List.pairwise_cons.2 ⟨fun y hy => ?_, List.pairwise_cons.2 h⟩
    rcases List.mem_cons.1 hy with rfl | hy
    ·exact hlt
    ·exact List.lt_trans hlt (h.1 y hy)
   ·rename_i hle
    have hlt : x < s := List.not_le.1 hle
    refine List.pairwise_cons.2 ⟨fun y hy => ?_, ih⟩
    rcases (addS_mem s l y).1 hy with rfl | hy
    ·exact hlt
    ·exact h.1 y hy
theorem varyS_aux : ∀ (l acc : List (List UInt8)), acc.Pairwise (· < ·) → (l.foldl (fun acc s => addS s acc) acc).Pairwise (· < ·) ∧ ∀ y, y ∈ l.foldl (fun acc s => addS s acc) acc ↔ y ∈ acc ∨ y ∈ l
 | [], acc, h => ⟨h, fun y => by simp⟩
 | s :: l, acc, h => by
  obtain ⟨h1, h2⟩ := varyS_aux l (addS s acc) (addS_sorted s acc h)
  refine ⟨h1, fun y => ?_⟩
  rw [List.foldl_cons, h2 y, addS_mem, List.mem_cons]
  constructor
  ·rintro ((h | h) | h) <;> simp [h]
  ·rintro (h | h | h) <;> simp [h]
theorem varyS_sorted (l : List (List UInt8)) : (varyS l).Pairwise (· < ·) := (varyS_aux l [] List.Pairwise.nil).1
theorem varyS_mem (l : List (List UInt8)) (y : List UInt8) : y ∈ varyS l ↔ y ∈ l := by
 unfold varyS
 rw [(varyS_aux l [] List.Pairwise.nil).2 y]
 simp
theorem varyS_nodup (l : List (List UInt8)) : (varyS l).Nodup := (varyS_sorted l).imp fun {a b} h e => by subst e; exact List.lt_irrefl a h
theorem varyS_merge (l ss : List (List UInt8)) (h : ss.Perm (varyS l)) : (ss.mergeSort fun x y => decide (x ≤ y)) = varyS l := by
 refine (Go.mergeSort_of_perm h).trans ?_
 exact List.mergeSort_of_pairwise ((varyS_sorted l).imp fun {a b} h => by simp only [decide_eq_true_eq]; exact List.le_of_lt h)
def varyL (its : List ByteArray) : List ByteArray := (varyS (its.map (·.data.toList))).map fun l => ⟨l.toArray⟩
def key_Vary.f (k : Nat) (l0 : List S37) : Option (List ByteArray × Bool) := (key_items.f k l0 (⟨#[86, 97, 114, 121]⟩ : ByteArray)).bind fun its => if its.length ≤ 1000000000 ∧ (∀ x ∈ its, x.size ≤ 1000000000) then (if ([42] : List UInt8) ∈ its.map (·.data.toList) then some ([], false) else some (varyL its, true)) else none
theorem key_Vary.mono (l0 : List S37) (k : Nat) : LeO (key_Vary.f k l0) (key_Vary.f (k + 1) l0) := by
 unfold key_Vary.f
 exact .bind (key_items.mono _ _ _) fun its => .refl _
theorem key_str (x : ByteArray) (h : x.size ≤ 1000000000) : keyOf Tryz.prog 9 (.string x) = some (.string x.data.toList) := by
 have h1 : x.size ≤ maxLen := by unfold maxLen; omega
 have h2 : x.data.size ≤ maxLen := h1
 simp [keyOf, Tryz.underlying9, mapKey, h1, h2]
set_option maxHeartbeats 3200000 in
set_option maxRecDepth 100000 in
theorem key_Vary.calls (k : Nat) (A0 : Option Addr) (c0 : Nat) (l0 : List S37) (r1 : List ByteArray) (r2 : Bool) (w : World) (hr0 : Kd.C k37 w A0 l0.length l0) (hc0 : l0.length ≤ c0) (h : key_Vary.f k l0 = some (r1, r2)) :
  Calls Tryz.prog 18 #[.slice A0 l0.length c0] w fun e w' => ∃ v1_ : Value, e = .returned (.tuple #[v1_, .bool r2]) ∧ Kd.R Kd.string 9 w' w.heap.size (fun _ => True) v1_ r1 ∧ Below w.heap.size w w' := by
 unfold key_Vary.f at h
 obtain ⟨its, hits, h⟩ := Option.bind_eq_some_iff.1 h
 split at h
 case isFalse => cases h
 case isTrue hsz =>
 obtain ⟨W1, hW1⟩ : ∃ W1, W1 = w.alloc (.map #[] 0) := ⟨_, rfl⟩
 obtain ⟨b, hb⟩ : ∃ b, b = w.heap.size := ⟨_, rfl⟩
 have hB1 : Below b w W1 := by rw [hW1, hb]; exact below_alloc (Below.refl w.heap.size w) _
 have hs1 : W1.heap.size = b + 1 := by rw [hW1, hb]; simp
 have hm1 : W1.ownsMap Tryz.prog 9 (unitElem (H := Unit)) b 0 (.map []) := by rw [hW1, hb]; exact World.ownsMap_made w _ _ _
 have KI := Lib.hid (key_items.calls k A0 c0 l0 _ its W1 (Kd.C_below hr0 (by rw [← hb]; exact hB1)) hc0 hits)
 have HM1 := Lib.hid hm1
 have HH := Lib.hid h
 have HB1 := Lib.hid hB1
 have HS1 := Lib.hid hs1
 have HBB := Lib.hid hb
 have HSZ := Lib.hid hsz
 clear hits hr0 hc0 h hB1 hs1 hm1 hsz
 have hmm := @run_makeMap Tryz.prog
 go_enter Tryz.func18, Tryz.ntmps18
 go_wp2_with fail
 simp only [← hW1, ← hb]
 clear hW1 hb hmm
 refine KI.out.mono ?_; rintro e w2 ⟨vi, rfl, hR2, hb2⟩
 obtain ⟨Ai, ci, rfl⟩ := Kd.R_slice hR2
 have HR2 : Hid (Kd.string.R 9 w2 (b + 1) (fun k => b + 1 ≤ k) (.slice Ai its.length ci) its) := Lib.hid (by rw [← HS1.out]; exact Kd.R_mono (Kd.R_bound hR2) (fun k hk => hk.2.1))
 have HM2 : Hid (w2.ownsMap Tryz.prog 9 (unitElem (H := Unit)) b 0 (.map [])) := Lib.hid (HM1.out.kept (row := none) ⟨hb2.os, hb2.tape, hb2.output, hb2.size, fun k hk _ => hb2.block k hk⟩ (by simp))
 have HB2 := Lib.hid (HB1.out.trans (hb2.mono (by have := HS1.out; omega)))
 clear hR2 hb2 KI HM1
 go_wp2_with fail
 go_loopw [13] (fun q wr => ∃ (i : Nat) (D : DataW Unit), q = .int .i64 i ∧ i ≤ its.length ∧ Hid (wr.ownsMap Tryz.prog 9 (unitElem (H := Unit)) b i D) ∧ Hid (∀ x, Maps.has D (.string x) = true ↔ x ∈ (its.take i).map (·.data.toList)) ∧ Hid (Below b w wr) ∧ Hid (Kd.string.R 9 wr (b + 1) (fun k => b + 1 ≤ k) (.slice Ai its.length ci) its)) (fun q _ => its.length - (RowKit.intOf q).toNat)
 case atStart => exact ⟨0, _, rfl, Nat.zero_le _, HM2, Lib.hid (fun x => by simp [Maps.has, DataW.atKey]), HB2, HR2⟩
 case round =>
  obtain ⟨i, D, rfl, hi, hM, hD, hbl, hR⟩ := hrel
  have hlen : its.length ≤ 1000000000 := HSZ.out.1
  by_cases hs : i < its.length
  ·obtain ⟨_, _, hC⟩ := Kd.R_reads' hR.out
   obtain ⟨ad, hA, hcell⟩ := Kd.at_string hC (i : Int) (by omega) (by omega)
   subst hA
   have hx : rdOf ByteArray.empty its (i : Int) = its.getD i ByteArray.empty := by simp [rdOf]
   rw [hx, Int.toNat_natCast] at hcell
   have hxm : its.getD i ByteArray.empty ∈ its := by
    rw [List.getD_eq_getElem?_getD, List.getElem?_eq_getElem hs]
    exact List.getElem_mem hs
   have htk : (its.take (i + 1)).map (·.data.toList) = (its.take i).map (·.data.toList) ++ [(its.getD i ByteArray.empty).data.toList] := by
    rw [List.take_succ_eq_append_getElem hs, List.map_append, List.getD_eq_getElem?_getD, List.getElem?_eq_getElem hs]
    rfl
   have hxs := HSZ.out.2 _ hxm
   generalize its.getD i ByteArray.empty = x at hcell htk hxs
   have hkey := key_str x hxs
   have HT := Lib.hid htk
   clear hC hx hxm htk
   go_wp2_with (first
    | (at_mapUpdate; refine wpList_mapUpdate_in _ rfl _ _ _ 63 rfl 9 64 (string_keyed Tryz.underlying9) Tryz.underlying63 unitElem b i D rfl hM.out (by unfold maxLen; omega) _ _ _ rfl rfl hkey (.agg []) [] unitElem_mk ?_; intro w3 hown3 hturn3))
   have hD2 : ∀ y, Maps.has (D.put (.string x.data.toList) (.agg [])) (.string y) = true ↔ y ∈ (its.take (i + 1)).map (·.data.toList) := fun y => by
    rw [HT.out, List.mem_append, List.mem_singleton]
    by_cases e : y = x.data.toList
    ·subst e
     rw [Maps.has_put_same hM.out.isMap (by trivial)]
     simp
    ·rw [Maps.has_put_other (fun e2 => e (by injection e2)), hD.out y]
     simp [e]
   have hB3 : Below b w w3 := hbl.out.grown hturn3.grown (by have := hbl.out.size; have := HBB.out; omega) (fun k e => by cases e; exact Nat.le_refl _)
   have hR3 := Kd.R_grown hR.out hturn3.grown (fun k hk e => by injection e with e; omega)
   refine ⟨⟨i + 1, _, by simp, hs, Lib.hid hown3, Lib.hid hD2, Lib.hid hB3, Lib.hid hR3⟩, ?_⟩
   show its.length - ((i : Int) + 1).toNat < its.length - ((i : Int)).toNat
   omega
  ·have hil : i = its.length := by omega
   subst hil
   have hDe := hD.out
   rw [List.take_length] at hDe
   have hkey := key_str (⟨#[42]⟩ : ByteArray) (by decide)
   have HD := Lib.hid hDe
   clear hDe
   have h := HH.out
   have hzero := Tryz.zeroValue64
   split at h
   case isTrue hst =>
    simp only [Option.some.injEq, Prod.mk.injEq] at h
    obtain ⟨rfl, rfl⟩ := h
    have hh : Maps.has D (.string [42]) = true := (HD.out [42]).2 hst
    have HHH := Lib.hid hh
    clear hst hh
    go_wp2_with (first
     | (at_lookup; refine wpList_lookup_own_unit _ rfl _ _ 63 rfl 9 64 (string_keyed Tryz.underlying9) Tryz.underlying63 (hzero _) b its.length D rfl hM.out _ _ rfl hkey ?_; rw [HHH.out]))
    go_ret2
    exact ⟨_, rfl, Kd.R_nil _ _ _ _ _, by rw [← HBB.out]; exact hbl.out.alloc (by have := hbl.out.size; have := HBB.out; omega) _⟩
   case isFalse hst =>
    simp only [Option.some.injEq, Prod.mk.injEq] at h
    obtain ⟨rfl, rfl⟩ := h
    have hh : Maps.has D (.string [42]) = false := by
     cases e : Maps.has D (.string [42]) with
     | false => rfl
     | true => exact absurd ((HD.out [42]).1 e) hst
    have HHH := Lib.hid hh
    clear hst hh
    go_wp2_with (first
     | (at_lookup; refine wpList_lookup_own_unit _ rfl _ _ 63 rfl 9 64 (string_keyed Tryz.underlying9) Tryz.underlying63 (hzero _) b its.length D rfl hM.out _ _ rfl hkey ?_; rw [HHH.out]))
    have hsw : b ≤ wr.heap.size := by have := hbl.out.size; have := HBB.out; omega
    have hmx : Maps.size D ≤ its.length := hM.out.size_le
    have hWa := hM.out.alloc (.cells #[] 64)
    obtain ⟨Wa, hWae⟩ : ∃ Wa, Wa = wr.alloc (.cells #[] 64) := ⟨_, rfl⟩
    have hBa : Below b w Wa := by rw [hWae]; exact hbl.out.alloc hsw _
    have hsa : b ≤ Wa.heap.size := by rw [hWae]; simp; omega
    rw [← hWae] at hWa ⊢
    clear hWae
    have HWA := Lib.hid hWa
    have HBA := Lib.hid hBa
    have hperm : (varyS (its.map (·.data.toList))).Perm (strKeys D) := by
     obtain ⟨es, hDe, hpw⟩ := hM.out.tidy (string_keyed Tryz.underlying9)
     obtain ⟨es2, hDe2, hks⟩ := hM.out.keysOf
     rw [hDe] at hDe2
     injection hDe2 with he2
     subst he2
     have hd := HD.out
     rw [hDe] at hd ⊢
     refine perm_strKeys hpw (fun p hp => ?_) (varyS_nodup _) (fun x => by rw [varyS_mem, hd x])
     obtain ⟨key, hkey2⟩ := hks p hp
     obtain ⟨x, _, hx, _⟩ := Go.Maps.keyOf_str Tryz.underlying9 hkey2
     exact ⟨x, hx⟩
    have KK := Lib.hid ((callsIn_wide (n := 5)).1 (Tryz.maps_Keys_38 (some b) Wa))
    have KS := Lib.hid ((callsIn_wide (n := 5)).1 (Tryz.slices_Sorted_keys_37_38 b its.length D unitElem Wa hWa (by unfold maxLen; omega) (by omega)))
    have HP := Lib.hid hperm
    have HSA := Lib.hid hsa
    clear hperm hWa hBa hsa
    refine KK.out.mono ?_; rintro e w4 ⟨rfl, hw4⟩
    subst hw4
    go_wp2_with fail
    refine KS.out.mono ?_; rintro e w5 ⟨v, ss, rfl, hS, hrow, hnil, hb5⟩
    have hss : ss.Perm (varyS (its.map (·.data.toList))) := hS.trans HP.out.symm
    have hmg := varyS_merge _ _ hss
    have hl5 : (varyL its).length = ss.length := by unfold varyL; rw [List.length_map]; exact hss.length_eq.symm
    have hrow2 : w5.ownsRow w.heap.size 9 1 v (varyL its).length (encs Value.string (varyL its)) := by
     rw [hl5]
     have e1 : encs Value.string (varyL its) = (ss.mergeSort fun x y => decide (x ≤ y)).map encStr := by
      rw [hmg]
      unfold varyL encs
      rw [List.map_map]
      rfl
     rw [e1]
     exact own_less hrow (by have := HSA.out; have := HBB.out; simp; omega)
    have HRW := Lib.hid hrow2
    have HB5 := Lib.hid ((HBA.out.alloc HSA.out (.cells #[.map (some b)] 63)).trans (hb5.mono (by have := HSA.out; simp; omega)))
    clear hrow hrow2 hb5 hS hnil hss hmg hl5
    go_wp2_with fail
    go_ret2
    exact ⟨_, rfl, Kd.R_of_own HRW.out (fun _ _ => trivial), by rw [← HBB.out]; exact HB5.out⟩
end Go.Proofs.YthmallhjbhphgaaGreatDoor.P
