/- The contract of chunk.Encode in the form of the printed ones. -/
import Derived.Test.YthemlbefkdmegaaDoorHX7
import Derived.Test.YthemlbefkdmegaaDoorHU3
import Derived.Deep.RegionWith
namespace Go.Proofs.YthemlbefkdmegaaDoor.H
open Go.RowKit Go.Shelf Go Go.Lib
theorem isb_below {T e : TypeId} {B b : Nat} {bs : List Value} {w w' : World} (h : IsBuilder T e B b bs w) (hb : Below w.heap.size w w') : IsBuilder T e B b bs w' := by
  have key : ∀ p, BuilderAt T e B b p bs w → BuilderAt T e B b p bs w' := fun p h => by
    obtain ⟨hB, v, hk, hown, hne⟩ := h
    have hlt : b < w.heap.size := by
      rcases Nat.lt_or_ge b w.heap.size with h' | h'
      · exact h'
      · simp [Array.getElem?_eq_none h'] at hk
    refine ⟨hB, v, (hb.block b hlt).trans hk, ?_, hne⟩
    refine hown.kept (row := none) ⟨hb.os, hb.tape, hb.output, hb.size, fun k hk _ => hb.block k hk⟩ ?_
    cases e : v.ownBlock with
    | none => exact .inl rfl
    | some g => exact .inr (by simp)
  exact h.elim (fun h => .inl (key _ h)) (fun h => .inr (key _ h))
def strLen : Value → Nat | .string s => s.size | _ => 0
end Go.Proofs.YthemlbefkdmegaaDoor.H
namespace Go.Proofs.YthemlbefkdmegaaDoor.P
open Go.RowKit Go.Shelf Go.Lib Go.Proofs.YthemlbefkdmegaaDoorW.PrintWords Go.Proofs.YthemlbefkdmegaaDoorW.PrintLast Go.Proofs.YthemlbefkdmegaaDoorW.PrintMore
/-- A chunk. -/
def oneChunk (n : Nat) (s : ByteArray) : ByteArray := ((⟨(H.hexL n).toArray⟩ ++ (⟨#[13, 10]⟩ : ByteArray)) ++ s.extract 0 n) ++ (⟨#[13, 10]⟩ : ByteArray)
def chunk_Encode.l0 : Nat → Int → ByteArray → ByteArray → Option ByteArray
  | 0, _, _, _ => none
  | k + 1, size, s, out =>
    if 0 < s.size then
      if 1 ≤ size ∧ size ≤ 4000 ∧ s.size ≤ 4000 ∧ out.size ≤ 1000000 then
        chunk_Encode.l0 k size (s.extract (min size.toNat s.size) s.size) (out ++ oneChunk (min size.toNat s.size) s)
      else none
    else if out.size ≤ 1000000 then some (out ++ (⟨#[48, 13, 10, 13, 10]⟩ : ByteArray)) else none
def chunk_Encode.f (k : Nat) (a0 : ByteArray) (a1 : Int) : Option (ByteArray × Int) :=
  if a1 < 1 then some (⟨#[]⟩, 1) else if a1 > 4000 then some (⟨#[]⟩, 1) else if (a0.size : Int) > 4000 then some (⟨#[]⟩, 1) else
    (chunk_Encode.l0 k a1 a0 ⟨#[]⟩).bind fun t => some (t, 0)
theorem chunk_Encode.mono_l : ∀ (k : Nat) (size : Int) (s out : ByteArray), LeO (chunk_Encode.l0 k size s out) (chunk_Encode.l0 (k + 1) size s out)
  | 0, _, _, _ => fun r h => by simp [chunk_Encode.l0] at h
  | k + 1, size, s, out => by
    have ih := chunk_Encode.mono_l k
    unfold chunk_Encode.l0
    exact .ite (.ite (ih _ _ _) (.refl _)) (.refl _)
theorem chunk_Encode.mono (a0 : ByteArray) (a1 : Int) (k : Nat) : LeO (chunk_Encode.f k a0 a1) (chunk_Encode.f (k + 1) a0 a1) := by
  unfold chunk_Encode.f
  exact .ite (.refl _) (.ite (.refl _) (.ite (.refl _) (.bind (chunk_Encode.mono_l _ _ _ _) fun t => .refl _)))
set_option maxHeartbeats 3200000 in
set_option maxRecDepth 100000 in
theorem chunk_Encode.calls (k : Nat) (a0 : ByteArray) (a1 : Int) (r1 : ByteArray) (r2 : Int) (w : World) (hG_ : H.GlobOk w) (h : chunk_Encode.f k a0 a1 = some (r1, r2)) :
    Calls Tryd.prog 13 #[.string a0, .int .i64 a1] w fun e w' => e = .returned (.tuple #[.string r1, .int .i64 r2]) ∧ Below w.heap.size w w' := by
  unfold chunk_Encode.f at h
  split at h
  case isTrue c1 =>
    simp only [Option.some.injEq, Prod.mk.injEq] at h
    obtain ⟨rfl, rfl⟩ := h
    have d1 : decide (a1 < 1) = true := decide_eq_true c1
    clear c1 hG_
    go_enter Tryd.func13, Tryd.ntmps13
    go_wp2_with fail
    go_ret2
    exact ⟨rfl, Below.refl _ _⟩
  case isFalse c1 =>
  have d1 : decide (a1 < 1) = false := decide_eq_false c1
  split at h
  case isTrue c2 =>
    simp only [Option.some.injEq, Prod.mk.injEq] at h
    obtain ⟨rfl, rfl⟩ := h
    have d2 : decide (a1 > 4000) = true := decide_eq_true c2
    clear c1 c2 hG_
    go_enter Tryd.func13, Tryd.ntmps13
    go_wp2_with fail
    go_ret2
    exact ⟨rfl, Below.refl _ _⟩
  case isFalse c2 =>
  have d2 : decide (a1 > 4000) = false := decide_eq_false c2
  split at h
  case isTrue c3 =>
    simp only [Option.some.injEq, Prod.mk.injEq] at h
    obtain ⟨rfl, rfl⟩ := h
    have d3 : decide ((a0.size : Int) > 4000) = true := decide_eq_true c3
    clear c1 c2 c3 hG_
    go_enter Tryd.func13, Tryd.ntmps13
    go_wp2_with fail
    go_ret2
    exact ⟨rfl, Below.refl _ _⟩
  case isFalse c3 =>
  have d3 : decide ((a0.size : Int) > 4000) = false := decide_eq_false c3
  obtain ⟨t, hl, h⟩ := Option.bind_eq_some_iff.1 h
  simp only [Option.some.injEq, Prod.mk.injEq] at h
  obtain ⟨rfl, rfl⟩ := h
  obtain ⟨bb, hbb⟩ : ∃ bb, bb = w.heap.size := ⟨_, rfl⟩
  have hfr := Lib.fresh_isBuilder 46 5 w
  have hb0 := below_alloc (Below.refl w.heap.size w) (.cells #[.pointer none, .slice none 0 0] 46)
  have HL := Lib.hid hl
  have HG := Lib.hid hG_
  have HFR := Lib.hid hfr
  have HB0 := Lib.hid hb0
  have HC : Hid (1 ≤ a1 ∧ a1 ≤ 4000) := Lib.hid (by omega)
  clear hl hG_ hfr hb0 c1 c2 c3
  go_enter Tryd.func13, Tryd.ntmps13
  go_wp2_with fail
  obtain ⟨W1, hW1⟩ : ∃ W1, W1 = w.alloc (.cells #[.pointer none, .slice none 0 0] 46) := ⟨_, rfl⟩
  rw [← hW1] at HFR HB0 ⊢
  rw [← hbb] at HFR HB0
  simp only [← hbb]
  have HBB := Lib.hid hbb
  clear hW1 d1 d2 d3 hbb
  clear h
  go_loopw [0] (fun v wr => ∃ (kq : Nat) (s out : ByteArray), v = .string s ∧ Hid (chunk_Encode.l0 kq a1 s out = some t) ∧ Hid (Lib.IsBuilder 46 5 bb bb (strCells out) wr) ∧ Hid (Below bb w wr)) (fun v _ => H.strLen v)
  case atStart => exact ⟨k, a0, ⟨#[]⟩, rfl, HL, HFR, HB0⟩
  case round =>
    obtain ⟨kq, s, out, rfl, hl, hB, hbl⟩ := hrel
    have h := hl.out
    cases kq with
    | zero => simp [chunk_Encode.l0] at h
    | succ kq =>
    unfold chunk_Encode.l0 at h
    split at h
    case isFalse hs =>
      have d : decide (0 < s.size) = false := decide_eq_false hs
      split at h
      case isFalse => cases h
      case isTrue hout =>
      injection h with h
      have HT := Lib.hid h
      have hBB := HBB.out
      have K := Lib.hid (H.write_any bb bb (strCells out) ⟨#[48, 13, 10, 13, 10]⟩ wr hB.out (by rw [strCells_length]; have : (⟨#[48, 13, 10, 13, 10]⟩ : ByteArray).size = 5 := rfl; omega) (by have := hbl.out.size; omega))
      clear h hs hout hBB
      go_wp2_with fail
      refine K.out.mono ?_; rintro e w2 ⟨rfl, h2, hb2⟩
      have HB2 := Lib.hid (hbl.out.trans hb2)
      have K2 := Lib.hid (H.text_any bb bb t.data.toList w2 (by rw [← HT.out, ByteArray.data_append, Array.toList_append]; unfold strCells at h2; rw [← List.map_append] at h2; exact .inr h2) (by rw [← HT.out, ByteArray.data_append, Array.toList_append]; simp))
      clear h2 hb2
      go_wp2_with fail
      refine K2.out.mono ?_; rintro e w3 ⟨rfl, hb3⟩
      have HB3 := Lib.hid (HB2.out.trans hb3)
      clear hb3
      go_wp2_with fail
      go_ret2
      exact ⟨rfl, by rw [← HBB.out]; exact HB3.out⟩
    case isTrue hs =>
      have d : decide (0 < s.size) = true := decide_eq_true hs
      split at h
      case isFalse => cases h
      case isTrue hg =>
      obtain ⟨n, hn⟩ : ∃ n, n = min a1.toNat s.size := ⟨_, rfl⟩
      rw [← hn] at h
      have hmin : min a1 (s.size : Int) = (n : Int) := by omega
      have hn0 : (0 : Int) ≤ (n : Int) := by omega
      have hn1 : (n : Int) ≤ (s.size : Int) := by omega
      have HN : Hid (1 ≤ n ∧ n ≤ s.size ∧ s.size ≤ 4000 ∧ out.size ≤ 1000000) := Lib.hid (by omega)
      have HT := Lib.hid h
      clear h hs hg hn
      go_upto_region 6 with (fail)
      have hn := HN.out
      have hx : (s.extract 0 n).size = n := by rw [ByteArray.size_extract]; omega
      have hh : (⟨(H.hexL n).toArray⟩ : ByteArray).size ≤ 14 := by
        have := H.hexL_length 13 n (by omega)
        show (H.hexL n).toArray.size ≤ 14
        rw [List.size_toArray]
        exact this
      have h2 : (⟨#[13, 10]⟩ : ByteArray).size = 2 := rfl
      have HH := Lib.hid hh
      obtain ⟨X, hX⟩ : ∃ X : ByteArray, X = ⟨(H.hexL n).toArray⟩ := ⟨_, rfl⟩
      rw [← hX] at hh
      have s1 : X.size + 2 ≤ 9223372036854775807 := by omega
      have s1' : X.size + (⟨#[13, 10]⟩ : ByteArray).size ≤ 9223372036854775807 := by omega
      have s2 : (X ++ (⟨#[13, 10]⟩ : ByteArray)).size + (s.extract 0 n).size ≤ 9223372036854775807 := by rw [ByteArray.size_append]; omega
      have s2' : X.size + 2 + (s.extract 0 n).size ≤ 9223372036854775807 := by omega
      have s3 : ((X ++ (⟨#[13, 10]⟩ : ByteArray)) ++ s.extract 0 n).size + (⟨#[13, 10]⟩ : ByteArray).size ≤ 9223372036854775807 := by rw [ByteArray.size_append, ByteArray.size_append]; omega
      have s3' : X.size + 2 + (s.extract 0 n).size + 2 ≤ 9223372036854775807 := by omega
      have s3'' : ((X ++ (⟨#[13, 10]⟩ : ByteArray)) ++ s.extract 0 n).size + 2 ≤ 9223372036854775807 := by rw [ByteArray.size_append, ByteArray.size_append]; omega
      have s4 : X.size + 2 + min n s.size ≤ 9223372036854775807 := by omega
      have s4' : X.size + 2 + min n s.size + 2 ≤ 9223372036854775807 := by omega
      have s5 : (X ++ (⟨#[13, 10]⟩ : ByteArray)).size + min n s.size ≤ 9223372036854775807 := by rw [ByteArray.size_append]; omega
      have s5' : (X ++ (⟨#[13, 10]⟩ : ByteArray)).size + min n s.size + 2 ≤ 9223372036854775807 := by rw [ByteArray.size_append]; omega
      have s6 : X.size + 2 + n ≤ 9223372036854775807 := by omega
      have s6' : X.size + 2 + n + 2 ≤ 9223372036854775807 := by omega
      have hlen : (strCells out).length + (oneChunk n s).size ≤ 140737488355328 := by
        have := HH.out
        unfold oneChunk
        rw [strCells_length, ByteArray.size_append, ByteArray.size_append, ByteArray.size_append]
        omega
      have HLEN := Lib.hid hlen
      have hbb : bb ≤ wr.heap.size := by have := hbl.out.size; have := HBB.out; omega
      have HBW := Lib.hid hbb
      have K := Lib.hid (H.text16 n (by omega) wr.drew (HG.out.below (by have := hbl.out; rw [HBB.out] at this; exact this.drew)))
      have HO : Hid (((X ++ (⟨#[13, 10]⟩ : ByteArray)) ++ s.extract 0 n) ++ (⟨#[13, 10]⟩ : ByteArray) = oneChunk n s) := Lib.hid (by rw [hX]; rfl)
      rw [← hX] at K
      have HLX := Lib.hid (show (strCells out).length + (((X ++ (⟨#[13, 10]⟩ : ByteArray)) ++ s.extract 0 n) ++ (⟨#[13, 10]⟩ : ByteArray)).size ≤ 140737488355328 by rw [HO.out]; exact hlen)
      clear hn hx hh h2 hlen hbb hX
      go_region_with (first
        | (go_at_call 20; refine K.out.mono ?_; rintro e w2 ⟨rfl, hb2⟩)
        | (go_at_call 19; refine (H.write_any bb bb (strCells out) (((X ++ (⟨#[13, 10]⟩ : ByteArray)) ++ s.extract 0 n) ++ (⟨#[13, 10]⟩ : ByteArray)) _ (H.isb_below hB.out ((Below.refl _ _).drew.trans hb2)) HLX.out (Nat.le_trans HBW.out hb2.size)).mono ?_; rintro e w3 ⟨rfl, h3, hb3⟩))
      rw [HO.out] at h3
      have HB3 : Hid (Lib.IsBuilder 46 5 bb bb (strCells (out ++ oneChunk n s)) w3) := Lib.hid (.inr (by
        have e : strCells (out ++ oneChunk n s) = strCells out ++ strCells (oneChunk n s) := by
          unfold strCells
          rw [ByteArray.data_append, Array.toList_append, List.map_append]
        rw [e]
        exact h3))
      have HBL3 := Lib.hid (hbl.out.drew.trans ((hb2.mono HBW.out).trans hb3))
      clear h3 hb2 hb3 s1 s1' s2 s2' s3 s3' s3'' s4 s4' s5 s5' s6 s6'
      go_wp2_with fail
      refine ⟨⟨kq, s.extract n s.size, out ++ oneChunk n s, rfl, HT, HB3, HBL3⟩, ?_⟩
      have := HN.out
      show (s.extract n s.size).size < s.size
      rw [ByteArray.size_extract]
      omega
end Go.Proofs.YthemlbefkdmegaaDoor.P
