/- The law KeyAny says true of arguments whose texts are not too great; plain Lean, no program. -/
import Derived.Test.YthmallhjbhphgaaGreatDoorP9
import Derived.Test.YthmallhjbhphgaaGreatDoorHO2
import Derived.Test.YthmallhjbhphgaaGreatDoorPx5
import Derived.Test.YthmallhjbhphgaaGreatDoorPx16
set_option linter.unusedVariables false
set_option linter.unusedSimpArgs false
namespace Go.Proofs.YthmallhjbhphgaaGreatDoor.P
open Go.RowKit Go.Proofs.YthmallhjbhphgaaGreatDoorW.PrintWords Go.Proofs.YthmallhjbhphgaaGreatDoorW.PrintLast Go.Proofs.YthmallhjbhphgaaGreatDoorW.PrintMore
theorem wrap_sum (a b : Nat) (h : a + b ≤ 9223372036854775807) : wrap64 ((a : Int) + (b : Int)) = ((a + b : Nat) : Int) := by
 unfold wrap64
 omega
theorem few_l0 (fs : List S37) (hs : ∀ x ∈ fs, x.f0.size ≤ 140737488351232 ∧ x.f1.size ≤ 140737488351232) (hl : fs.length ≤ 140737488351232) (d : Nat) :
  ∀ (i n k : Nat), 2001 - n ≤ d → i ≤ fs.length → n ≤ 300000000000000 → i ≤ n → (∀ x ∈ fs.take i, x.f0.size ≤ n ∧ x.f1.size ≤ n) → d + 1 ≤ k → ∃ b, lockagelaw16_few.l0 k fs (n : Int) (i : Int) = some b ∧ (b = true → FitK fs) := by
 induction d with
 | zero =>
  intro i n k hd hi hn hin hP hk
  obtain ⟨k, rfl⟩ : ∃ j, k = j + 1 := ⟨k - 1, by omega⟩
  have hf : decide ((n : Int) ≤ 2000) = false := decide_eq_false (by omega)
  rw [lockagelaw16_few.l0, hf]
  refine ⟨false, ?_, fun h => by cases h⟩
  split
  ·rw [if_neg (by omega)]
  ·rfl
 | succ d ih =>
  intro i n k hd hi hn hin hP hk
  obtain ⟨k, rfl⟩ : ∃ j, k = j + 1 := ⟨k - 1, by omega⟩
  rw [lockagelaw16_few.l0]
  by_cases hlt : i < fs.length
  ·rw [if_pos (by omega)]
   by_cases h2 : (n : Int) ≤ 2000
   ·have hx : rd_T37 fs (i : Int) = fs[i] := by simp [rd_T37, rdOf, hlt]
    have hz := hs fs[i] (List.getElem_mem hlt)
    have h3 : n ≤ 2000 := by omega
    rw [if_pos h2, if_pos (by omega), hx, wrap_k n (by omega), wrap_sum (n + 1) fs[i].f0.size (by omega), wrap_sum (n + 1 + fs[i].f0.size) fs[i].f1.size (by omega), wrap_k i (by omega)]
    refine ih (i + 1) (n + 1 + fs[i].f0.size + fs[i].f1.size) k (by omega) (by omega) (by omega) (by omega) (fun x hx => ?_) (by omega)
    rw [List.take_add_one, List.getElem?_eq_getElem hlt] at hx
    rcases List.mem_append.1 hx with hx | hx
    ·have := hP x hx; omega
    ·have e : x = fs[i] := by simpa using hx
     rw [e]
     omega
   ·rw [if_neg h2, decide_eq_false h2]
    exact ⟨false, rfl, fun h => by cases h⟩
  ·rw [if_neg (by omega)]
   refine ⟨_, rfl, fun h => ?_⟩
   have h2 : (n : Int) ≤ 2000 := of_decide_eq_true h
   have e : fs.take i = fs := List.take_of_length_le (by omega)
   rw [e] at hP
   exact ⟨by omega, fun x hx => by have := hP x hx; omega⟩
theorem few_ev (fs : List S37) (hs : ∀ x ∈ fs, x.f0.size ≤ 140737488351232 ∧ x.f1.size ≤ 140737488351232) (hl : fs.length ≤ 140737488351232) (k : Nat) (hk : 2003 ≤ k) : ∃ b, lockagelaw16_few.f k fs = some b ∧ (b = true → FitK fs) :=
 few_l0 fs hs hl 2001 0 0 k (by omega) (by omega) (by omega) (by omega) (fun x hx => by simp at hx) (by omega)
theorem KeyAny_ok {W : World} {c0 c1 c2 : List Value} {m0 t0 : ByteArray} {s0 : Int} {r0 : ByteArray} {i0 : Int} {A0 : Option Addr} {p0 : Nat} {f0 : List S37} {b0 : ByteArray} (H0 : MsgIn W c0 m0 t0 s0 r0 i0 A0 p0 f0 b0) (u0 : m0.size ≤ 1048576)
  {m1 t1 : ByteArray} {s1 : Int} {r1 : ByteArray} {i1 : Int} {A1 : Option Addr} {p1 : Nat} {f1 : List S37} {b1 : ByteArray} (H1 : MsgIn W c1 m1 t1 s1 r1 i1 A1 p1 f1 b1) (_u1 : m1.size ≤ 1048576)
  {m2 t2 : ByteArray} {s2 : Int} {r2 : ByteArray} {i2 : Int} {A2 : Option Addr} {p2 : Nat} {f2 : List S37} (H2 : HeadIn W c2 m2 t2 s2 r2 i2 A2 p2 f2)
  (l3 : List ByteArray) (_y3 : l3.length * 16 ≤ 140737488351232) (_h3 : ∀ s ∈ l3, s.size ≤ 140737488351232) (u3 : ∀ s ∈ l3, s.size ≤ 1048576) :
  ∃ k, lockagelaw16_KeyAny.f k m0 t0 s0 r0 i0 f0 b0 m1 t1 s1 r1 i1 f1 b1 m2 t2 s2 r2 i2 f2 l3 = some true := by
 obtain ⟨k, hk⟩ : ∃ k, 9000000000 ≤ k := ⟨_, Nat.le_refl _⟩
 have k2 : 300 ≤ k := by omega
 have k3 : 2003 ≤ k := by omega
 have n0 : f0.length * 32 ≤ 140737488351232 := H0.h.hn
 have n1 : f1.length * 32 ≤ 140737488351232 := H1.h.hn
 have n2 : f2.length * 32 ≤ 140737488351232 := H2.hn
 obtain ⟨x0, e0, g0⟩ := few_ev f0 (fun x hx => H0.h.hs x hx) (by omega) k k3
 obtain ⟨x1, e1, g1⟩ := few_ev f1 (fun x hx => H1.h.hs x hx) (by omega) k k3
 obtain ⟨x2, e2, g2⟩ := few_ev f2 (fun x hx => H2.hs x hx) (by omega) k k3
 refine ⟨k, ?_⟩
 unfold lockagelaw16_KeyAny.f
 rw [awake16_k k k2, Option.bind_some, if_pos rfl, e0, Option.bind_some]
 cases x0 with
 | false => rw [if_neg (by decide)]
 | true =>
  rw [if_pos rfl, e1, Option.bind_some]
  cases x1 with
  | false => rw [if_neg (by decide)]
  | true =>
   rw [if_pos rfl, e2, Option.bind_some]
   cases x2 with
   | false => rw [if_neg (by decide)]
   | true =>
    rw [if_pos rfl]
    by_cases c : (l3.length : Int) > 10
    ·rw [if_pos c]
    ·have hn : l3.length ≤ 4042110 := by omega
     rw [if_neg c, same_ok m0 t0 s0 r0 i0 (g0 rfl) b0 m1 t1 s1 r1 i1 (g1 rfl) b1 m2 t2 s2 r2 i2 (g2 rfl) l3 hn u3 u0 k hk, Option.bind_some]
     split <;> rfl
end Go.Proofs.YthmallhjbhphgaaGreatDoor.P
