/- The contract of lockagelaw08.awake: what it asks for is concrete. -/
import Derived.Test.YthemlbefkdmegaaDoorHX5
import Derived.Test.YthemlbefkdmegaaDoorHX6
namespace Go.Proofs.YthemlbefkdmegaaDoor.P
open Go.RowKit Go.Shelf Go.Lib Go.Proofs.YthemlbefkdmegaaDoorW.PrintWords Go.Proofs.YthemlbefkdmegaaDoorW.PrintLast Go.Proofs.YthemlbefkdmegaaDoorW.PrintMore
def lockagelaw08_awake.f (k : Nat) : Option Bool := if 100 ≤ k then some true else none
theorem lockagelaw08_awake.mono : ∀ k, LeO (lockagelaw08_awake.f k) (lockagelaw08_awake.f (k + 1)) := by
  intro k r h
  unfold lockagelaw08_awake.f at h ⊢
  split at h
  · rw [if_pos (by omega)]; exact h
  · cases h
set_option maxHeartbeats 1600000 in
set_option maxRecDepth 100000 in
theorem lockagelaw08_awake.calls (k : Nat) (r : Bool) (w : World) (hG_ : H.GlobOk w) (h : lockagelaw08_awake.f k = some r) :
    Calls Tryd.prog 9 #[] w fun e w' => e = .returned (.bool r) ∧ Below w.heap.size w w' := by
  unfold lockagelaw08_awake.f at h
  split at h
  case isFalse => cases h
  case isTrue =>
  injection h with h
  subst h
  have f1 : chunk_Feed.f 100 0 0 ⟨#[]⟩ 0 (⟨#[51, 13, 10, 97, 98, 99, 13, 10, 48, 13, 10, 13, 10, 120]⟩ : ByteArray) = some (4, 0, ⟨#[]⟩, 3, 13, ⟨#[97, 98, 99]⟩, 0) := by kernel_rfl
  have f2 : chunk_Feed.f 100 0 0 ⟨#[]⟩ 0 (⟨#[103, 13, 10]⟩ : ByteArray) = some (0, 0, ⟨#[]⟩, 0, 0, ⟨#[]⟩, 23) := by kernel_rfl
  have f3 : chunk_Encode.f 100 (⟨#[97, 98, 99, 100]⟩ : ByteArray) 3 = some (⟨#[51, 13, 10, 97, 98, 99, 13, 10, 49, 13, 10, 100, 13, 10, 48, 13, 10, 13, 10]⟩, 0) := by kernel_rfl
  have f4 : chunk_Right.f 100 4 0 ⟨#[]⟩ 3 = some true := by kernel_rfl
  have f5 : chunk_Right.f 100 5 0 ⟨#[]⟩ 0 = some false := by kernel_rfl
  have HG := Lib.hid hG_
  have F1 := Lib.hid f1
  have F2 := Lib.hid f2
  have F3 := Lib.hid f3
  have F4 := Lib.hid f4
  have F5 := Lib.hid f5
  clear hG_ f1 f2 f3 f4 f5
  go_enter Tryd.func9, Tryd.ntmps9
  go_wp2_with fail
  refine (chunk_Feed.calls 100 _ _ _ _ _ _ _ _ _ _ _ _ w F1.out).mono ?_; rintro e w1 ⟨rfl, hb⟩
  have HB1 := Lib.hid hb
  clear hb
  go_wp2_with fail
  have q := heap_alloc_new w1 (.cells #[.int .i64 4, .int .i64 0, .string ⟨#[]⟩, .int .i64 3] 23)
  have hb := (below_alloc (Below.refl w1.heap.size w1) (.cells #[.int .i64 4, .int .i64 0, .string ⟨#[]⟩, .int .i64 3] 23)).mono HB1.out.size
  obtain ⟨g, hg⟩ : ∃ g, g = w1.heap.size := ⟨_, rfl⟩
  obtain ⟨W2, hW2⟩ : ∃ W2, W2 = w1.alloc (.cells #[.int .i64 4, .int .i64 0, .string ⟨#[]⟩, .int .i64 3] 23) := ⟨_, rfl⟩
  have hlt : g < W2.heap.size := by rw [hW2, hg]; simp
  rw [← hW2, ← hg] at q
  rw [← hW2] at hb ⊢
  simp only [← hg]
  have Q2 := Lib.hid q
  have HB2 := Lib.hid (HB1.out.trans hb)
  have HLT := Lib.hid hlt
  clear hW2 hg q hb hlt HB1
  refine (chunk_Feed.calls 100 _ _ _ _ _ _ _ _ _ _ _ _ W2 F2.out).mono ?_; rintro e w3 ⟨rfl, hb⟩
  have Q3 := Lib.hid ((hb.block g HLT.out).trans Q2.out)
  have HB3 := Lib.hid (HB2.out.trans (hb.mono HB2.out.size))
  have HL3 := Lib.hid (Nat.lt_of_lt_of_le HLT.out hb.size)
  clear hb Q2 HB2 HLT
  go_wp2_with fail
  have hb := (below_alloc (Below.refl w3.heap.size w3) (.cells #[.int .i64 0, .int .i64 0, .string ⟨#[]⟩, .int .i64 0] 23)).mono HB3.out.size
  have q := (Below.heap_alloc w3 (.cells #[.int .i64 0, .int .i64 0, .string ⟨#[]⟩, .int .i64 0] 23) g HL3.out).trans Q3.out
  obtain ⟨W4, hW4⟩ : ∃ W4, W4 = w3.alloc (.cells #[.int .i64 0, .int .i64 0, .string ⟨#[]⟩, .int .i64 0] 23) := ⟨_, rfl⟩
  have hlt : g < W4.heap.size := by rw [hW4]; have := HL3.out; simp; omega
  rw [← hW4] at q hb ⊢
  have Q4 := Lib.hid q
  have HB4 := Lib.hid (HB3.out.trans hb)
  have HL4 := Lib.hid hlt
  clear hW4 q hb hlt HB3 Q3 HL3
  refine (chunk_Encode.calls 100 _ _ _ _ W4 (HG.out.below HB4.out) F3.out).mono ?_; rintro e w5 ⟨rfl, hb⟩
  have Q5 := Lib.hid ((hb.block g HL4.out).trans Q4.out)
  have HB5 := Lib.hid (HB4.out.trans (hb.mono HB4.out.size))
  clear hb Q4 HB4 HL4
  have c0 : w5.cell? ⟨g, 0, none⟩ = some (.int .i64 4) := by rw [cell_of_heap Q5.out]; rfl
  have c1 : w5.cell? ⟨g, 1, none⟩ = some (.int .i64 0) := by rw [cell_of_heap Q5.out]; rfl
  have c2 : w5.cell? ⟨g, 2, none⟩ = some (.string ⟨#[]⟩) := by rw [cell_of_heap Q5.out]; rfl
  have c3 : w5.cell? ⟨g, 3, none⟩ = some (.int .i64 3) := by rw [cell_of_heap Q5.out]; rfl
  go_wp2_with fail
  refine (chunk_Right.calls 100 _ _ _ _ _ w5 F4.out).mono ?_; rintro e w6 ⟨rfl, hb⟩
  have HB6 := Lib.hid (HB5.out.trans (hb.mono HB5.out.size))
  clear hb c0 c1 c2 c3 Q5 HB5
  go_wp2_with fail
  refine (chunk_Right.calls 100 _ _ _ _ _ w6 F5.out).mono ?_; rintro e w7 ⟨rfl, hb⟩
  have HB7 := Lib.hid (HB6.out.trans (hb.mono HB6.out.size))
  clear hb HB6
  go_wp2_with fail
  go_ret
  exact ⟨rfl, HB7.out⟩
end Go.Proofs.YthemlbefkdmegaaDoor.P
