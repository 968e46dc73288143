/- The law MessagePrint says true; plain Lean, no program. -/
import Derived.Test.YtapeodbgobkjeaaGreatDoorP9
import Derived.Test.YtapeodbgobkjeaaGreatDoorP7
import Derived.Test.YtapeodbgobkjeaaGreatDoorMNW
import Derived.Test.YtapeodbgobkjeaaGreatDoorPx28
import Derived.Test.YtapeodbgobkjeaaGreatDoorPx47
import Derived.Test.YtapeodbgobkjeaaGreatDoorPx40
set_option linter.unusedVariables false
set_option linter.unusedSimpArgs false
namespace Go.Proofs.YtapeodbgobkjeaaGreatDoor.P
open Go.RowKit Go.Proofs.YtapeodbgobkjeaaGreatDoorW.PrintWords Go.Proofs.YtapeodbgobkjeaaGreatDoorW.PrintLast Go.Proofs.YtapeodbgobkjeaaGreatDoorW.PrintMore
def dropP : List ByteArray := [(⟨#[67, 111, 110, 116, 101, 110, 116, 45, 76, 101, 110, 103, 116, 104]⟩ : ByteArray), (⟨#[84, 114, 97, 110, 115, 102, 101, 114, 45, 69, 110, 99, 111, 100, 105, 110, 103]⟩ : ByteArray)]
def dropR : List ByteArray := [(⟨#[99, 111, 110, 116, 101, 110, 116, 45, 108, 101, 110, 103, 116, 104]⟩ : ByteArray), (⟨#[116, 114, 97, 110, 115, 102, 101, 114, 45, 101, 110, 99, 111, 100, 105, 110, 103]⟩ : ByteArray)]
theorem keeps_both : keeps dropP = keeps dropR := by
 funext x
 unfold keeps dropP dropR H.sameName
 simp only [List.any_cons, List.any_nil]
 rw [show Sp.lower (⟨#[67, 111, 110, 116, 101, 110, 116, 45, 76, 101, 110, 103, 116, 104]⟩ : ByteArray).data.toList = Sp.lower (⟨#[99, 111, 110, 116, 101, 110, 116, 45, 108, 101, 110, 103, 116, 104]⟩ : ByteArray).data.toList by decide,
  show Sp.lower (⟨#[84, 114, 97, 110, 115, 102, 101, 114, 45, 69, 110, 99, 111, 100, 105, 110, 103]⟩ : ByteArray).data.toList = Sp.lower (⟨#[116, 114, 97, 110, 115, 102, 101, 114, 45, 101, 110, 99, 111, 100, 105, 110, 103]⟩ : ByteArray).data.toList by decide]
theorem Print_both (m t : ByteArray) (st : Int) (rs : ByteArray) (mi : Int) (fs : List S40) (hm : m.size ≤ 1000) (ht : t.size ≤ 1000) (hr : rs.size ≤ 1000) (hl : fs.length ≤ 1000) (hs : ∀ f ∈ fs, f.f0.size ≤ 1000 ∧ f.f1.size ≤ 1000) (b : ByteArray) (ans : Bool) (k : Nat) (hk : 800000 ≤ k) :
  ∃ r, message_Print.f k m t st rs mi fs b ans = some r ∧ lockageref09_Print.f k m t st rs mi fs b ans = some r := by
 unfold message_Print.f lockageref09_Print.f
 by_cases h : (b.size : Int) > 4000
 ·rw [if_pos h, if_pos h]
  exact ⟨_, rfl, rfl⟩
 ·have hmul : fs.length * (dropR.length + 2) ≤ 1000 * 4 := Nat.mul_le_mul hl (Nat.le_refl _)
  obtain ⟨t1, t2, t3⟩ := both_text (b.size : Int) (by omega) (by omega)
  have d1 : field_Drop.f fs [(⟨#[67, 111, 110, 116, 101, 110, 116, 45, 76, 101, 110, 103, 116, 104]⟩ : ByteArray), (⟨#[84, 114, 97, 110, 115, 102, 101, 114, 45, 69, 110, 99, 111, 100, 105, 110, 103]⟩ : ByteArray)] = some (fs.filter (keeps dropR)) := by
   rw [← keeps_both]
   exact Drop_f fs dropP (fun x hx => by have := hs x hx; omega) (by decide) (by omega) (by decide)
  have d2 : lockageref05_Drop.f k fs [(⟨#[99, 111, 110, 116, 101, 110, 116, 45, 108, 101, 110, 103, 116, 104]⟩ : ByteArray), (⟨#[116, 114, 97, 110, 115, 102, 101, 114, 45, 101, 110, 99, 111, 100, 105, 110, 103]⟩ : ByteArray)] = some (fs.filter (keeps dropR)) :=
   RefDrop_ev 1000 (by decide) fs dropR (by omega) (by decide) (fun x hx => (hs x hx).1) (by decide) k (by omega)
  have hfl : (fs.filter (keeps dropR)).length ≤ 1000 := Nat.le_trans (List.length_filter_le _ _) hl
  have hfs : ∀ f ∈ fs.filter (keeps dropR) ++ [(⟨(⟨#[67, 111, 110, 116, 101, 110, 116, 45, 76, 101, 110, 103, 116, 104]⟩ : ByteArray), H.text10 (b.size : Int)⟩ : S40)], f.f0.size ≤ 100000 ∧ f.f1.size ≤ 100000 := fun f hf => by
   rcases List.mem_append.1 hf with hf | hf
   ·have := hs f (List.mem_filter.1 hf).1
    omega
   ·rw [List.mem_singleton.1 hf]
    exact ⟨by show (14 : Nat) ≤ 100000; decide, by show (H.text10 (b.size : Int)).size ≤ 100000; omega⟩
  obtain ⟨P, p1, p2, hP⟩ : ∃ P : ByteArray × Int, head_Print.f k m t st rs mi (fs.filter (keeps dropR) ++ [(⟨(⟨#[67, 111, 110, 116, 101, 110, 116, 45, 76, 101, 110, 103, 116, 104]⟩ : ByteArray), H.text10 (b.size : Int)⟩ : S40)]) ans = some P ∧ lockageref06_Print.f k m t st rs mi (fs.filter (keeps dropR) ++ [(⟨(⟨#[67, 111, 110, 116, 101, 110, 116, 45, 76, 101, 110, 103, 116, 104]⟩ : ByteArray), H.text10 (b.size : Int)⟩ : S40)]) ans = some P ∧ P.1.size ≤ 3000 := by
   refine ⟨_, Print_ev m t st rs mi _ ans (by omega) (by omega) (by omega) hfs k (by omega), RPrint_ev m t st rs mi _ ans (by omega) (by omega) (by omega) (by rw [List.length_append, List.length_singleton]; omega) hfs k (by omega), ?_⟩
   split
   ·split
    ·exact Nat.zero_le _
    ·rename_i hbd
     show (mkL _).size ≤ _
     rw [mkL_size, List.length_append]
     show _ + 4 ≤ _
     omega
   ·exact Nat.zero_le _
  rw [if_neg h, if_neg h, d1, Option.bind_some, t1, Option.bind_some, if_pos (show (fs.filter (keeps dropR)).length < 4398046511104 by omega), p1, Option.bind_some, d2, Option.bind_some, t3 k (by omega), Option.bind_some, if_pos (show (fs.filter (keeps dropR)).length < 4398046511104 by omega), p2, Option.bind_some]
  by_cases h0 : P.2 = 0
  ·rw [if_pos h0, if_pos (by omega)]
   exact ⟨_, rfl, rfl⟩
  ·rw [if_neg h0]
   exact ⟨_, rfl, rfl⟩
theorem awake9_k (k : Nat) (hk : 100 ≤ k) : lockagelaw09_awake.f k = some true := if_pos hk
theorem MessagePrint_ok (l0 : List Int) (y0 : l0.length * 1 ≤ 140737488351232) (h0 : ∀ x ∈ l0, (Lit.int .u8 x).wf = true) (a1 : ByteArray) (_w1 : a1.size ≤ 140737488351232) (a2 : Bool) : ∃ k, lockagelaw09_MessagePrint.f k l0 a1 a2 = some true := by
 obtain ⟨m, t, st, rs, mi, fs, e, hr, _⟩ := made_right l0 (by omega) h0 a2
 obtain ⟨hm, ht, hs, hl, hf⟩ := right_small hr
 have P := fun (z : Bool) k hk => Print_both m t st rs mi fs hm ht hs (by omega) hf a1 z k hk
 have loop : ∀ k, 800000 ≤ k → lockagelaw09_MessagePrint.l0 (k + 3) [false, true] 2 0 m t st rs mi fs a1 = some true := fun k hk => by
  obtain ⟨r1, e1, e2⟩ := P false (k + 2) (by omega)
  obtain ⟨r2, e3, e4⟩ := P true (k + 1) (by omega)
  rw [lockagelaw09_MessagePrint.l0, if_pos (by decide), if_pos (by decide), if_pos (by decide), show rdOf false [false, true] 0 = false from rfl, e1, Option.bind_some, e2, Option.bind_some, if_pos rfl, if_pos rfl, show wrap64 (0 + 1) = 1 by unfold wrap64; omega,
   lockagelaw09_MessagePrint.l0, if_pos (by decide), if_pos (by decide), if_pos (by decide), show rdOf false [false, true] 1 = true from rfl, e3, Option.bind_some, e4, Option.bind_some, if_pos rfl, if_pos rfl, show wrap64 (1 + 1) = 2 by unfold wrap64; omega,
   lockagelaw09_MessagePrint.l0, if_neg (by decide), awake9_k k (by omega), Option.bind_some]
 have j : ∀ b, lockagelaw09_MessagePrint.j0 800004 b m t st rs mi fs a1 = some true := fun b => by
  rw [lockagelaw09_MessagePrint.j0]
  cases b with
  | true => rw [if_pos rfl, awake9_k _ (by decide), Option.bind_some]
  | false => rw [if_neg (by decide), Option.bind_some]; exact loop 800000 (Nat.le_refl _)
 refine ⟨800004, ?_⟩
 unfold lockagelaw09_MessagePrint.f
 rw [e _ (by decide), Option.bind_some]
 dsimp only
 split <;> exact j _
end Go.Proofs.YtapeodbgobkjeaaGreatDoor.P
