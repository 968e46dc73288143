/- The contract of the iterator of strings.SplitSeq at a separator of one byte. -/
import Derived.Test.YtljppmpigijgaaaDoorHR
import Derived.Test.YtljppmpigijgaaaDoorHD
import Derived.Shelf.Abstract
import Derived.Shelf.RegionOpen
import Derived.OwnWalkIn
import Derived.TacticsInMore
import Derived.LoopNIn
import Derived.LoopIn
namespace Go.Proofs.YtljppmpigijgaaaDoor.H
open Go.RowKit Go.Shelf Go
attribute [local go_sem] Oper.semAt_some

theorem parts_none {c : UInt8} {l : List UInt8} (h : c ∉ l) : Sp.parts c l = [l] := by
  induction l with
  | nil => rfl
  | cons b l ih =>
    rw [List.mem_cons, not_or] at h
    have hb : (b == c) = false := by simpa using fun e : b = c => h.1 e.symm
    rw [Sp.parts, ih h.2, hb]; rfl
theorem parts_some {c : UInt8} {l : List UInt8} (h : c ∈ l) : Sp.parts c l = l.takeWhile (· != c) :: Sp.parts c ((l.dropWhile (· != c)).drop 1) := by
  induction l with
  | nil => cases h
  | cons b l ih =>
    by_cases e : b = c
    · subst e
      rw [Sp.parts]; simp
    · have hb : (b == c) = false := by simpa using e
      have hb2 : (b != c) = true := by simpa using e
      have hl : c ∈ l := by rcases List.mem_cons.mp h with h | h; exact absurd h.symm e; exact h
      rw [Sp.parts, ih hl, hb, List.takeWhile_cons, List.dropWhile_cons, hb2]; rfl
/-- How many bytes a text's cell holds. -/
def cellLen (b : Nat) (w : World) : Nat := match w.cell? ⟨b, 0, none⟩ with | some (.string s) => s.size | _ => 0
def mkB (l : List UInt8) : ByteArray := ⟨l.toArray⟩
def vparts (c : UInt8) (l : List UInt8) : List Value := (Sp.parts c l).map fun p => .string (mkB p)
theorem grown_set (W : World) (b : Nat) (v : Value) : W.grownBy (W.setCell ⟨b, 0, none⟩ v) (some b) :=
  ⟨rfl, rfl, rfl, by simp [World.setCell], fun k _ hk => Below.heap_setCell W ⟨b, 0, none⟩ v k (fun e => hk (by rw [e]))⟩
theorem extract_mkL (s : ByteArray) (c : UInt8) (k : Nat) (h3 : s.data.toList.take k = s.data.toList.takeWhile (· != c)) : s.extract 0 k = mkB (s.data.toList.takeWhile (· != c)) := by
  apply ba_ext
  rw [Lib.extract_data, ← h3]
  simp [mkB]
theorem extract_R (s : ByteArray) (c : UInt8) (k : Nat) (h4 : s.data.toList.drop (k + 1) = (s.data.toList.dropWhile (· != c)).drop 1) : (s.extract (k + 1) s.size).data.toList = (s.data.toList.dropWhile (· != c)).drop 1 := by
  rw [Lib.extract_to_end, h4]
theorem mk_self (s : ByteArray) : mkB s.data.toList = s := by simp [mkB]

structure SplitAt (bp bs bv : Nat) (c : UInt8) (s0 rest : ByteArray) (J : Nat → World → Prop) (k : Nat) (wr : World) : Prop where
  p : wr.cell? ⟨bp, 0, none⟩ = some (.string ⟨#[c]⟩)
  s : wr.cell? ⟨bs, 0, none⟩ = some (.string rest)
  f : wr.frozen? ⟨bs, 0, none⟩ = false
  v : wr.cell? ⟨bv, 0, none⟩ = some (.int .i64 0)
  j : J k wr
  e : (Sp.parts c s0.data.toList).drop k = Sp.parts c rest.data.toList
  z : rest.size ≤ 9223372036854775806
theorem SplitAt.get {bp bs bv : Nat} {c : UInt8} {s0 rest : ByteArray} {J : Nat → World → Prop} {k : Nat} {wr : World} (h : SplitAt bp bs bv c s0 rest J k wr) {p : List UInt8} {r : List (List UInt8)} (hp : Sp.parts c rest.data.toList = p :: r) :
    (vparts c s0.data.toList)[k]? = some (.string (mkB p)) ∧ (Sp.parts c s0.data.toList).drop (k + 1) = r := by
  have e := h.e
  rw [hp] at e
  have hk : (Sp.parts c s0.data.toList)[k]? = some p := by
    have := congrArg (fun l => l[0]?) e
    simpa using this
  refine ⟨by unfold vparts; rw [List.getElem?_map, hk]; rfl, ?_⟩
  rw [← List.drop_drop, e]; rfl

set_option maxRecDepth 100000 in
set_option maxHeartbeats 4000000 in
theorem split_in (n l bp bs bv : Nat) (s0 : ByteArray) (c : UInt8) (J : Nat → World → Prop) (W : World) (hne : bp ≠ bs) (hnv : bv ≠ bs)
    (hp : W.cell? ⟨bp, 0, none⟩ = some (.string ⟨#[c]⟩)) (hs : W.cell? ⟨bs, 0, none⟩ = some (.string s0)) (hf : W.frozen? ⟨bs, 0, none⟩ = false) (hv : W.cell? ⟨bv, 0, none⟩ = some (.int .i64 0))
    (hsz : s0.size ≤ 9223372036854775806) (hJ : Ab (fun r => r = bs) J)
    (hY : ∀ k x W1, J k W1 → (vparts c s0.data.toList)[k]? = some x → YieldAt Fence.wide (n - 1) Tryd.prog l #[x] W1 fun e W' => e = .returned (.bool true) ∧ J (k + 1) W' ∧ ∀ b, (b = bp ∨ b = bs ∨ b = bv) → W'.heap[b]? = W1.heap[b]?)
    (h0 : J 0 W) :
    CallsIn Fence.wide n Tryd.prog 79 #[.func (.yield l) #[] #[], .pointer (some ⟨bp, 0, none⟩), .pointer (some ⟨bs, 0, none⟩), .pointer (some ⟨bv, 0, none⟩)] W fun e W' => (∃ v, e = .returned v) ∧ J (vparts c s0.data.toList).length W' := by
  have HS : Hid (SplitAt bp bs bv c s0 s0 J 0 W) := Lib.hid ⟨hp, hs, hf, hv, h0, rfl, hsz⟩
  have HJ := Lib.hid hJ
  have HY := Lib.hid hY
  clear hf hv h0 hJ hY hsz
  refine callsIn_of_wp Tryd.func79 rfl trivial ?_ rfl
  simp only [Tryd.ntmps79, List.size_toArray, List.length_cons, List.length_nil, Nat.reduceAdd, Nat.reduceSub, Array.replicate_succ, Array.replicate_zero, List.push_toArray, List.append_toArray, List.nil_append, List.cons_append]
  gi_wp2
  clear hp hs
  gi_loopw [7, 8] (fun _ _ wr => ∃ (k : Nat) (rest : ByteArray), Hid (SplitAt bp bs bv c s0 rest J k wr)) (fun _ _ wr => cellLen bs wr)
  case atStart => exact ⟨0, s0, HS⟩
  case round =>
    obtain ⟨k, rest, hA⟩ := hrel
    have hp := hA.out.p
    have hs := hA.out.s
    have hf := hA.out.f
    have hv := hA.out.v
    have hz := hA.out.z
    have hI := fun w => (callsIn_wide (n := n - 1)).2 (Tryd.strings_Index_one rest c w)
    have hl : rest.data.toList.length = rest.size := by simp
    rcases index_split rest.data.toList c with ⟨h1, h2⟩ | ⟨i, h1, h2, h3, h4, h5⟩
    · rw [h1] at hI
      have HI := Lib.hid hI
      obtain ⟨g1, g2⟩ := hA.out.get (parts_none h2)
      rw [mk_self] at g1
      have HG2 := Lib.hid g2
      obtain ⟨fn, tmps, assign, body, hy, hR⟩ := HY.out k _ wr hA.out.j g1
      clear hI h1 h2 hl g1 g2
      gi_wp2_with fail
      refine ⟨trivial, (fun h => by simp [Fence.wide] at h), (HI.out _).mono ?_⟩; rintro e w' ⟨rfl, rfl⟩
      gi_wp2_with fail
      refine ⟨(fun h => by simp [Fence.wide] at h), hR.mono ?_⟩
      rintro e W3 ⟨rfl, hJ3, hk3⟩
      gi_wp2_with fail
      go_end0
      refine ⟨⟨_, rfl⟩, ?_⟩
      have hlen : (vparts c s0.data.toList).length = k + 1 := by
        unfold vparts
        rw [List.length_map]
        have h8 := congrArg List.length HG2.out
        have h9 := congrArg List.length hA.out.e
        simp at h8 h9
        have h10 : 0 < (Sp.parts c rest.data.toList).length := by
          cases hq : rest.data.toList with
          | nil => simp [Sp.parts]
          | cons b r =>
            rw [Sp.parts]
            split
            · simp
            · split <;> simp
        omega
      rw [hlen]; exact hJ3
    · rw [h1] at hI
      rw [hl] at h2
      have HI := Lib.hid hI
      obtain ⟨g1, g2⟩ := hA.out.get (parts_some h5)
      rw [← extract_mkL rest c i h3] at g1
      rw [← extract_R rest c i h4] at g2
      have HG2 := Lib.hid g2
      obtain ⟨fn, tmps, assign, body, hy, hR⟩ := HY.out k _ wr hA.out.j g1
      have b1 : (0 : Int) ≤ (i : Int) := by omega
      have b2 : (i : Int) ≤ (rest.size : Int) := by omega
      have b3 : (i : Int) + 1 ≤ (rest.size : Int) := by omega
      have b4 : (0 : Int) ≤ (i : Int) + 1 := by omega
      have HL := Lib.hid hs
      clear hI h1 hl g1 g2 h3 h4 h5
      gi_wp2_with fail
      refine ⟨trivial, (fun h => by simp [Fence.wide] at h), (HI.out _).mono ?_⟩; rintro e w' ⟨rfl, rfl⟩
      gi_wp2_with fail
      refine ⟨(fun h => by simp [Fence.wide] at h), hR.mono ?_⟩
      rintro e W3 ⟨rfl, hJ3, hk3⟩
      have p3 : W3.cell? ⟨bp, 0, none⟩ = some (.string ⟨#[c]⟩) := (World.cell?_of_block (hk3 bp (.inl rfl))).trans hp
      have s3 : W3.cell? ⟨bs, 0, none⟩ = some (.string rest) := (World.cell?_of_block (hk3 bs (.inr (.inl rfl)))).trans hs
      have f3 : W3.frozen? ⟨bs, 0, none⟩ = false := (World.frozen?_of_block (hk3 bs (.inr (.inl rfl)))).trans hf
      have v3 : W3.cell? ⟨bv, 0, none⟩ = some (.int .i64 0) := (World.cell?_of_block (hk3 bv (.inr (.inr rfl)))).trans hv
      clear hk3
      gi_wp2_with fail
      go_roundw
      case rel => exact ⟨k + 1, rest.extract (i + 1) rest.size, Lib.hid ⟨
        (World.cell?_setCell_other _ _ _ _ (by intro e; injection e with e; exact hne e.symm)).trans p3,
        World.cell?_setCell_same' _ _ _ (by rw [s3]; rfl),
        by rw [World.frozen?_setCell]; exact f3,
        (World.cell?_setCell_other _ _ _ _ (by intro e; injection e with e; exact hnv e.symm)).trans v3,
        HJ.out _ _ _ _ hJ3 (grown_set _ _ _) (fun r e => by cases e; rfl),
        HG2.out, by simp; omega⟩⟩
      case measure =>
        unfold cellLen
        rw [World.cell?_setCell_same' _ _ _ (by rw [s3]; rfl), HL.out]
        simp; omega
end Go.Proofs.YtljppmpigijgaaaDoor.H
