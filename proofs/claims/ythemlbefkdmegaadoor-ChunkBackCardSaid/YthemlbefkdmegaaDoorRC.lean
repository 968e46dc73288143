/- The law ChunkBack answers true; plain Lean, no program. -/
import Derived.Test.YthemlbefkdmegaaDoorRB
import Derived.Test.YthemlbefkdmegaaDoorPx15
namespace Go.Proofs.YthemlbefkdmegaaDoor.P
open Go.RowKit Go.Proofs.YthemlbefkdmegaaDoorW.PrintWords Go.Proofs.YthemlbefkdmegaaDoorW.PrintLast Go.Proofs.YthemlbefkdmegaaDoorW.PrintMore
theorem Back_j0 (s : ByteArray) (hs : s.size ≤ 300) (a1 : Int) (h1 : 0 ≤ a1) (h2 : a1 ≤ 65535) (a2 : ByteArray) (h3 : a2.size ≤ 140737488351232) (k : Nat) (hk : 20000 ≤ k) : lockagelaw08_ChunkBack.j0 (k + 1) s a1 a2 true = some true := by
  have hw : wrap64 a1 = a1 := by unfold wrap64; omega
  have hm : 0 ≤ Int.tmod a1 4000 ∧ Int.tmod a1 4000 < 4000 := ⟨Int.tmod_nonneg _ h1, Int.tmod_lt_of_pos _ (by decide)⟩
  obtain ⟨z, hz⟩ : ∃ z, z = wrap64 (1 + Int.tmod (wrap64 a1) 4000) := ⟨_, rfl⟩
  have hz1 : 1 ≤ z ∧ z ≤ 4000 := by
    rw [hw] at hz
    generalize Int.tmod a1 4000 = q at hz hm
    have : wrap64 (1 + q) = 1 + q := by unfold wrap64; omega
    omega
  obtain ⟨c, g1, g2, g3⟩ := enc_feed z hz1 s.size s ⟨#[]⟩ (Nat.le_refl _) (by omega) (by show 0 + _ ≤ _; omega)
  have e0 : (⟨#[]⟩ : ByteArray) ++ c = c := H.ba_ext (by rw [ByteArray.data_append]; simp)
  have hE : chunk_Encode.f k s z = some (c, 0) := by
    unfold chunk_Encode.f
    rw [if_neg (by omega), if_neg (by omega), if_neg (by omega), g1 k (by omega), e0, Option.bind_some]
  have hR : chunk_Right.f k 0 0 ⟨#[]⟩ 0 = some true := at_rounds (chunk_Right.mono _ _ _ _) (show 20 ≤ k by omega) (by kernel_rfl)
  have hF : chunk_Feed.f k 0 0 ⟨#[]⟩ 0 (c ++ a2) = some (4, 0, ⟨#[]⟩, (s.size : Int), (c.size : Int), s, 0) := by
    unfold chunk_Feed.f
    rw [hR, Option.bind_some, if_pos rfl, if_pos (by rw [ByteArray.size_append]; omega)]
    rw [g3 (c ++ a2) 0 a2.data.toList 0 ⟨#[]⟩ (by rw [List.drop_zero, ByteArray.data_append, Array.toList_append]) (by decide) (by omega) (by show 0 + _ ≤ _; omega) k (by omega), Option.bind_some]
    dsimp only
    have es : (⟨#[]⟩ : ByteArray) ++ s = s := H.ba_ext (by rw [ByteArray.data_append]; simp)
    rw [if_pos rfl, es, Int.zero_add, Nat.zero_add]
  unfold lockagelaw08_ChunkBack.j0
  dsimp only
  rw [← hz, hE, Option.bind_some]
  dsimp only
  rw [if_pos (by omega), hF, Option.bind_some]
  dsimp only
  rw [if_pos rfl, if_pos rfl, if_pos rfl, if_pos rfl, if_pos rfl, empty_list]
  simp
theorem ChunkBack_ok (a0 : ByteArray) (h0 : a0.size ≤ 140737488351232) (a1 : Int) (w1 : (Lit.int .u16 a1).wf = true) (a2 : ByteArray) (h2 : a2.size ≤ 140737488351232) : ∃ k, lockagelaw08_ChunkBack.f k a0 a1 a2 = some true := by
  have hb : 0 ≤ a1 ∧ a1 ≤ 65535 := by
    unfold Lit.wf at w1
    simp [IntKind.min, IntKind.max, IntKind.signed, IntKind.bits] at w1
    omega
  refine ⟨20001, ?_⟩
  unfold lockagelaw08_ChunkBack.f
  rw [show lockagelaw08_awake.f 20001 = some true by unfold lockagelaw08_awake.f; rw [if_pos (by decide)], Option.bind_some, if_pos rfl]
  by_cases h : (a0.size : Int) > 300
  · rw [if_pos h, if_pos (by decide), if_pos (by omega)]
    exact Back_j0 _ (by rw [ByteArray.size_extract]; omega) a1 hb.1 hb.2 a2 h2 20000 (Nat.le_refl _)
  · rw [if_neg h]
    exact Back_j0 _ (by omega) a1 hb.1 hb.2 a2 h2 20000 (Nat.le_refl _)
end Go.Proofs.YthemlbefkdmegaaDoor.P
