/- Arguments opened: a head and a message (structs that hold a slice of fields), as the printed contracts read them, with their bounds. -/
import Derived.Test.YthmallhjbhphgaaGreatDoorHO
set_option linter.unusedVariables false
set_option linter.unusedSimpArgs false
namespace Go.Proofs.YthmallhjbhphgaaGreatDoor.P
open Go.ChangeShapes Go.WideShapes Go.Deep Go.RowKit Go.Proofs.YthmallhjbhphgaaGreatDoorW.PrintWords Go.Proofs.YthmallhjbhphgaaGreatDoorW.PrintLast
section
variable {H : Type} {enc : TypeId × Value → H} {w : World} {base : Nat} {spare : Nat → Bool} {held : Bool}
structure HeadIn (w : World) (cs : List Value) (m t : ByteArray) (st : Int) (rs : ByteArray) (mi : Int) (A : Option Addr) (c : Nat) (fs : List S37) : Prop where
 e : cs = [.string m, .string t, .int .i64 st, .string rs, .int .i64 mi, .slice A fs.length c]
 hc : fs.length ≤ c
 hr : Kd.C k37 w A fs.length fs
 hn : fs.length * 32 ≤ reachBytes
 hs : ∀ s ∈ fs, s.f0.size ≤ reachBytes ∧ s.f1.size ≤ reachBytes
 h0 : m.size ≤ reachBytes
 h1 : t.size ≤ reachBytes
 h3 : rs.size ≤ reachBytes
 h2 : (Lit.int .i64 st).wf = true
 h4 : (Lit.int .i64 mi).wf = true
set_option maxRecDepth 100000 in
theorem open_head {fuel : Nat} {cs : List Value} {x : DataW H × List MemPlace} (h : DataW.trod enc Tryz.prog w base spare held fuel 24 cs = some x) (hw : ∀ n ∈ x.1.weights Tryz.prog 24, n ≤ reachBytes) :
  ∃ m t st rs mi A c fs, HeadIn w cs m t st rs mi A c fs := by
 obtain ⟨ys, n, _, rfl, hl, hyl, hf⟩ := DataW.trod_struct Tryz.underlying24 h
 have cH : Tryz.prog.cellsOf 24 = 6 := by kernel_rfl
 have cS : Tryz.prog.cellsOf 9 = 1 := by kernel_rfl
 have cI : Tryz.prog.cellsOf 3 = 1 := by kernel_rfl
 have cL : Tryz.prog.cellsOf 22 = 1 := by kernel_rfl
 rw [cH] at hl
 match cs, hl, ys, hyl with
 | [v0, v1, v2, v3, v4, v5], _, [y0, y1, y2, y3, y4, y5], _ =>
  have g0 : DataW.trod enc Tryz.prog w base spare held n 9 ((([v0, v1, v2, v3, v4, v5] : List Value).drop 0).take (Tryz.prog.cellsOf 9)) = some y0 := hf 0 _ rfl
  rw [cS] at g0
  have g1 : DataW.trod enc Tryz.prog w base spare held n 9 ((([v0, v1, v2, v3, v4, v5] : List Value).drop 1).take (Tryz.prog.cellsOf 9)) = some y1 := hf 1 _ rfl
  rw [cS] at g1
  have g2 : DataW.trod enc Tryz.prog w base spare held n 3 ((([v0, v1, v2, v3, v4, v5] : List Value).drop 2).take (Tryz.prog.cellsOf 3)) = some y2 := hf 2 _ rfl
  rw [cI] at g2
  have g3 : DataW.trod enc Tryz.prog w base spare held n 9 ((([v0, v1, v2, v3, v4, v5] : List Value).drop 3).take (Tryz.prog.cellsOf 9)) = some y3 := hf 3 _ rfl
  rw [cS] at g3
  have g4 : DataW.trod enc Tryz.prog w base spare held n 3 ((([v0, v1, v2, v3, v4, v5] : List Value).drop 4).take (Tryz.prog.cellsOf 3)) = some y4 := hf 4 _ rfl
  rw [cI] at g4
  have g5 : DataW.trod enc Tryz.prog w base spare held n 22 ((([v0, v1, v2, v3, v4, v5] : List Value).drop 5).take (Tryz.prog.cellsOf 22)) = some y5 := hf 5 _ rfl
  rw [cL] at g5
  obtain ⟨s0, e0, z0, _⟩ := DataW.trod_string Tryz.underlying9 g0
  obtain ⟨s1, e1, z1, _⟩ := DataW.trod_string Tryz.underlying9 g1
  obtain ⟨s2, e2, z2, b2⟩ := DataW.trod_int Tryz.underlying3 g2
  obtain ⟨s3, e3, z3, _⟩ := DataW.trod_string Tryz.underlying9 g3
  obtain ⟨s4, e4, z4, b4⟩ := DataW.trod_int Tryz.underlying3 g4
  have f0 : v0 = .string s0 := by simpa using e0
  have f1 : v1 = .string s1 := by simpa using e1
  have f2 : v2 = .int .i64 s2 := by simpa using e2
  have f3 : v3 = .string s3 := by simpa using e3
  have f4 : v4 = .int .i64 s4 := by simpa using e4
  have k0 : y0 = (.lit (.string s0.data.toList), []) := by simpa using z0
  have k1 : y1 = (.lit (.string s1.data.toList), []) := by simpa using z1
  have k2 : y2 = (.lit (.int .i64 s2), []) := by simpa using z2
  have k3 : y3 = (.lit (.string s3.data.toList), []) := by simpa using z3
  have k4 : y4 = (.lit (.int .i64 s4), []) := by simpa using z4
  subst f0 f1 f2 f3 f4 k0 k1 k2 k3 k4
  have g6 : DataW.trod enc Tryz.prog w base spare held n 22 [v5] = some y5 := by simpa using g5
  obtain ⟨A, len, c, hv⟩ : ∃ A len c, v5 = .slice A len c := by
   rcases DataW.trod_slice Tryz.underlying22 g6 with ⟨hc, _⟩ | ⟨a, len, cap, _, _, _, _, hc, _⟩
   ·exact ⟨_, _, _, by simpa using hc⟩
   ·exact ⟨_, _, _, by simpa using hc⟩
  subst hv
  have hw2 : ∀ n ∈ (DataW.weightsEach Tryz.prog [9, 9, 3, 9, 3, 22] [.lit (.string s0.data.toList), .lit (.string s1.data.toList), .lit (.int .i64 s2), .lit (.string s3.data.toList), .lit (.int .i64 s4), y5.1]), n ≤ reachBytes := by
   intro n hn
   apply hw
   rw [show ∀ l : List (DataW H × List MemPlace), ((.agg (l.map (·.1)) : DataW H), l.flatMap (·.2)).1 = .agg (l.map (·.1)) from fun _ => rfl, DataW.weights, Tryz.underlying24]
   exact hn
  simp only [DataW.weightsEach, DataW.weights, List.append_nil, List.nil_append, List.mem_append, List.mem_cons, List.not_mem_nil, or_false] at hw2
  obtain ⟨fs, rfl, hc, hr, hn, hs⟩ := open_pairs (d := y5.1) (p := y5.2) Tryz.underlying22 Tryz.underlying37 rfl rfl Tryz.underlying9 Tryz.underlying9 (by kernel_rfl) (by kernel_rfl) (by kernel_rfl) ⟨n, g6⟩ (fun q hq => hw2 q (by simp [hq]))
  refine ⟨s0, s1, s2, s3, s4, A, c, fs, rfl, hc, hr, hn, hs, ?_, ?_, ?_, b2, b4⟩
  ·have := hw2 s0.data.toList.length (by simp); rwa [data_length] at this
  ·have := hw2 s1.data.toList.length (by simp); rwa [data_length] at this
  ·have := hw2 s3.data.toList.length (by simp); rwa [data_length] at this
structure MsgIn (w : World) (cs : List Value) (m t : ByteArray) (st : Int) (rs : ByteArray) (mi : Int) (A : Option Addr) (c : Nat) (fs : List S37) (b : ByteArray) : Prop where
 e : cs = [.string m, .string t, .int .i64 st, .string rs, .int .i64 mi, .slice A fs.length c, .string b]
 h : HeadIn w [.string m, .string t, .int .i64 st, .string rs, .int .i64 mi, .slice A fs.length c] m t st rs mi A c fs
 hb : b.size ≤ reachBytes
set_option maxRecDepth 100000 in
theorem open_msg {fuel : Nat} {cs : List Value} {x : DataW H × List MemPlace} (h : DataW.trod enc Tryz.prog w base spare held fuel 26 cs = some x) (hw : ∀ n ∈ x.1.weights Tryz.prog 26, n ≤ reachBytes) :
  ∃ m t st rs mi A c fs b, MsgIn w cs m t st rs mi A c fs b := by
 obtain ⟨ys, n, _, rfl, hl, hyl, hf⟩ := DataW.trod_struct Tryz.underlying26 h
 have cM : Tryz.prog.cellsOf 26 = 7 := by kernel_rfl
 have cH : Tryz.prog.cellsOf 24 = 6 := by kernel_rfl
 have cS : Tryz.prog.cellsOf 9 = 1 := by kernel_rfl
 rw [cM] at hl
 match cs, hl, ys, hyl with
 | [v0, v1, v2, v3, v4, v5, v6], _, [y0, y1], _ =>
  have g0 : DataW.trod enc Tryz.prog w base spare held n 24 ((([v0, v1, v2, v3, v4, v5, v6] : List Value).drop 0).take (Tryz.prog.cellsOf 24)) = some y0 := hf 0 _ rfl
  rw [cH] at g0
  have g1 : DataW.trod enc Tryz.prog w base spare held n 9 ((([v0, v1, v2, v3, v4, v5, v6] : List Value).drop 6).take (Tryz.prog.cellsOf 9)) = some y1 := hf 1 _ rfl
  rw [cS] at g1
  have g2 : DataW.trod enc Tryz.prog w base spare held n 24 [v0, v1, v2, v3, v4, v5] = some y0 := by simpa using g0
  obtain ⟨s, e1, z1, _⟩ := DataW.trod_string Tryz.underlying9 g1
  have f1 : v6 = .string s := by simpa using e1
  have k1 : y1 = (.lit (.string s.data.toList), []) := by simpa using z1
  subst f1 k1
  have hw2 : ∀ n ∈ (DataW.weightsEach Tryz.prog [24, 9] [y0.1, .lit (.string s.data.toList)]), n ≤ reachBytes := by
   intro n hn
   apply hw
   rw [show ∀ l : List (DataW H × List MemPlace), ((.agg (l.map (·.1)) : DataW H), l.flatMap (·.2)).1 = .agg (l.map (·.1)) from fun _ => rfl, DataW.weights, Tryz.underlying26]
   exact hn
  simp only [DataW.weightsEach, DataW.weights, List.append_nil, List.mem_append, List.mem_cons, List.not_mem_nil, or_false] at hw2
  obtain ⟨m, t, st, rs, mi, A, c, fs, hh⟩ := open_head g2 (fun q hq => hw2 q (.inl hq))
  have he := hh.e
  simp only [List.cons.injEq, and_true] at he
  obtain ⟨rfl, rfl, rfl, rfl, rfl, rfl⟩ := he
  refine ⟨m, t, st, rs, mi, A, c, fs, s, rfl, hh, ?_⟩
  have := hw2 s.data.toList.length (by simp); rwa [data_length] at this
end
end Go.Proofs.YthmallhjbhphgaaGreatDoor.P
