/- The law ChunkEncode answers true; plain Lean, no program. -/
import Derived.Test.YthemlbefkdmegaaDoorRB
import Derived.Test.YthemlbefkdmegaaDoorPx21
import Derived.Test.YthemlbefkdmegaaDoorPx4
import Derived.Test.YthemlbefkdmegaaDoorPx22
namespace Go.Proofs.YthemlbefkdmegaaDoor.P
open Go.RowKit Go.Proofs.YthemlbefkdmegaaDoorW.PrintWords Go.Proofs.YthemlbefkdmegaaDoorW.PrintLast Go.Proofs.YthemlbefkdmegaaDoorW.PrintMore
theorem dg_at (d : Nat) (h : d < 16) : (⟨#[48, 49, 50, 51, 52, 53, 54, 55, 56, 57, 97, 98, 99, 100, 101, 102]⟩ : ByteArray).extract d (d + 1) = ⟨#[H.dg d]⟩ := by
  have a : ((List.range 16).all fun d => ((⟨#[48, 49, 50, 51, 52, 53, 54, 55, 56, 57, 97, 98, 99, 100, 101, 102]⟩ : ByteArray).extract d (d + 1)).data.toList == [H.dg d]) = true := by kernel_rfl
  rw [List.all_eq_true] at a
  have := a d (List.mem_range.2 h)
  exact H.ba_ext (by simpa using this)
theorem RefText_x : ∀ (j n k : Nat), n < 16 ^ (j + 1) → n ≤ 4000 → 2 * j + 4 ≤ k → lockageref03_Text.f k (n : Int) 16 = some ⟨(H.hexL n).toArray⟩ := by
  intro j
  induction j with
  | zero =>
    intro n k hn h4 hk
    obtain ⟨k, rfl⟩ : ∃ j, k = j + 2 := ⟨k - 2, by omega⟩
    have h16 : n < 16 := by simpa using hn
    have et : Int.tmod (n : Int) 16 = ((n : Nat) : Int) := by rw [Int.tmod_eq_emod_of_nonneg (by omega)]; omega
    have hw : wrap64 ((n : Int) + 1) = ((n + 1 : Nat) : Int) := by unfold wrap64; omega
    rw [lockageref03_Text.f]
    have hf : lockageref03_Fits.f (n : Int) = some true := by
      unfold lockageref03_Fits.f
      rw [if_pos (by omega), decide_eq_true (by omega)]
    rw [hf, Option.bind_some, if_pos rfl, if_neg (by decide)]
    rw [lockageref03_Text.j0, if_neg (by decide), if_neg (by decide), et, hw, if_pos (by omega), if_pos (by omega), if_pos (by omega), Int.toNat_natCast, Int.toNat_natCast, dg_at n h16, if_pos (by omega), H.hexL_one h16]
  | succ j ih =>
    intro n k hn h4 hk
    obtain ⟨k, rfl⟩ : ∃ j, k = j + 2 := ⟨k - 2, by omega⟩
    by_cases h16 : n < 16
    · have := ih n (k + 2) (by
        have : 1 ≤ 16 ^ j := Nat.one_le_pow _ _ (by decide)
        rw [Nat.pow_succ]; omega) h4 (by omega)
      exact this
    · have et : Int.tmod (n : Int) 16 = ((n % 16 : Nat) : Int) := rfl
      have ed : Int.tdiv (n : Int) 16 = ((n / 16 : Nat) : Int) := rfl
      have hm : n % 16 < 16 := Nat.mod_lt _ (by decide)
      have hw : wrap64 (((n % 16 : Nat) : Int) + 1) = ((n % 16 + 1 : Nat) : Int) := by unfold wrap64; omega
      have hw2 : wrap64 (((n / 16 : Nat) : Int)) = ((n / 16 : Nat) : Int) := by unfold wrap64; omega
      have hl := H.hexL_length 3 (n / 16) (by omega)
      rw [lockageref03_Text.f]
      have hf : lockageref03_Fits.f (n : Int) = some true := by
        unfold lockageref03_Fits.f
        rw [if_pos (by omega), decide_eq_true (by omega)]
      rw [hf, Option.bind_some, if_pos rfl, if_neg (by decide)]
      rw [lockageref03_Text.j0, if_neg (by decide), if_neg (by decide), et, hw, if_pos (by omega), if_pos (by omega), if_pos (by omega), Int.toNat_natCast, Int.toNat_natCast, dg_at _ hm, if_neg (by omega), ed, hw2]
      rw [ih (n / 16) k (by rw [Nat.pow_succ] at hn; omega) (by omega) (by omega), Option.bind_some, if_pos (by rw [mk_size]; show _ + 1 ≤ _; omega), H.hexL_more h16]
      refine congrArg some (H.ba_ext ?_)
      simp [ByteArray.data_append]
theorem ext_drop (s : ByteArray) (i : Nat) : (s.extract i s.size).data.toList = s.data.toList.drop i := by
  rw [ByteArray.data_extract, Array.toList_extract]
  simp only [List.extract_eq_take_drop]
  rw [List.take_of_length_le (by rw [List.length_drop, size_data]; omega)]
theorem ext_take (s : ByteArray) (i n : Nat) : (s.extract i (i + n)).data.toList = (s.data.toList.drop i).take n := by
  rw [ByteArray.data_extract, Array.toList_extract]
  simp only [List.extract_eq_take_drop]
  rw [Nat.add_sub_cancel_left]
set_option maxHeartbeats 800000 in
theorem ref_enc (z : Int) (hz : 1 ≤ z ∧ z ≤ 4000) (s : ByteArray) (hs : s.size ≤ 4000) (d : Nat) : ∀ (i k : Nat) (out : ByteArray), s.size - i ≤ d → out.size + 30 * (s.size - i) ≤ 900000 → i ≤ 10000 → d + 30 ≤ k →
    ∃ R, lockageref08_Encode.l0 k s z out (i : Int) = some (R, 0) ∧ ∀ K, d + 1 ≤ K → chunk_Encode.l0 K z (s.extract i s.size) out = some R := by
  induction d with
  | zero =>
    intro i k out hd ho hi hk
    obtain ⟨k, rfl⟩ : ∃ j, k = j + 1 := ⟨k - 1, by omega⟩
    have hsz : (s.extract i s.size).size = s.size - i := by rw [ByteArray.size_extract]; omega
    refine ⟨out ++ (⟨#[48, 13, 10, 13, 10]⟩ : ByteArray), ?_, fun K hK => ?_⟩
    · rw [lockageref08_Encode.l0, if_neg (by omega), if_pos (by omega)]
    · obtain ⟨K, rfl⟩ : ∃ j, K = j + 1 := ⟨K - 1, by omega⟩
      rw [chunk_Encode.l0, if_neg (by omega), if_pos (by omega)]
  | succ d ih =>
    intro i k out hd ho hi hk
    obtain ⟨k, rfl⟩ : ∃ j, k = j + 1 := ⟨k - 1, by omega⟩
    have hsz : (s.extract i s.size).size = s.size - i := by rw [ByteArray.size_extract]; omega
    by_cases h : s.size ≤ i
    · refine ⟨out ++ (⟨#[48, 13, 10, 13, 10]⟩ : ByteArray), ?_, fun K hK => ?_⟩
      · rw [lockageref08_Encode.l0, if_neg (by omega), if_pos (by omega)]
      · obtain ⟨K, rfl⟩ : ∃ j, K = j + 1 := ⟨K - 1, by omega⟩
        rw [chunk_Encode.l0, if_neg (by omega), if_pos (by omega)]
    · obtain ⟨n, hn⟩ : ∃ n, n = min z.toNat (s.size - i) := ⟨_, rfl⟩
      have HW := Lib.hid (show wrap64 ((s.size : Int) - (i : Int)) = ((s.size - i : Nat) : Int) by unfold wrap64; omega)
      have HMN := Lib.hid (show mn z ((s.size - i : Nat) : Int) = (n : Int) by unfold mn; omega)
      have HW2 := Lib.hid (show wrap64 ((i : Int) + (n : Int)) = ((i + n : Nat) : Int) by unfold wrap64; omega)
      have HW3 := Lib.hid (show wrap64 ((i : Int) + z) = ((i + z.toNat : Nat) : Int) by unfold wrap64; omega)
      have ht := RefText_x 2 n k (by omega) (by omega) (by omega)
      have hl3 := (hex_ok (n := n) (by omega)).2.2.2.2
      have hxs : (⟨(H.hexL n).toArray⟩ : ByteArray).size ≤ 3 := by rw [mk_size]; exact hl3
      have h2 : (⟨#[13, 10]⟩ : ByteArray).size = 2 := rfl
      have hes : (s.extract i (i + n)).size = n := by rw [ByteArray.size_extract]; omega
      have hex : (s.extract i s.size).extract 0 n = s.extract i (i + n) := H.ba_ext (by
        have := ext_take (s.extract i s.size) 0 n
        rw [Nat.zero_add] at this
        rw [this, ext_drop, List.drop_zero, ext_take])
      have hout : ((((out ++ (⟨(H.hexL n).toArray⟩ : ByteArray)) ++ (⟨#[13, 10]⟩ : ByteArray)) ++ s.extract i (i + n)) ++ (⟨#[13, 10]⟩ : ByteArray)) = out ++ oneChunk n (s.extract i s.size) := by
        unfold oneChunk
        rw [hex]
        simp only [ByteArray.append_assoc]
      have hnext : (s.extract i s.size).extract n (s.extract i s.size).size = s.extract (i + z.toNat) s.size := H.ba_ext (by
        rw [ext_drop, ext_drop, ext_drop, List.drop_drop]
        by_cases hc : n = z.toNat
        · rw [hc]
        · rw [List.drop_of_length_le (by rw [size_data]; omega), List.drop_of_length_le (by rw [size_data]; omega)])
      have hosz : (out ++ oneChunk n (s.extract i s.size)).size ≤ out.size + 7 + n := by
        rw [ByteArray.size_append, chunk_size n _ (by omega)]
        omega
      obtain ⟨R, r1, r2⟩ := ih (i + z.toNat) k (out ++ oneChunk n (s.extract i s.size)) (by omega) (by omega) (by omega) (by omega)
      have c1 : (i : Int) < (s.size : Int) := by omega
      have c2 : out.size + (⟨(H.hexL n).toArray⟩ : ByteArray).size ≤ 9223372036854775807 := by omega
      have c3 : (out ++ (⟨(H.hexL n).toArray⟩ : ByteArray)).size + 2 ≤ 9223372036854775807 := by rw [ByteArray.size_append]; omega
      have c4 : (0 : Int) ≤ (i : Int) := by omega
      have c5 : (i : Int) ≤ ((i + n : Nat) : Int) := by omega
      have c6 : ((i + n : Nat) : Int) ≤ (s.size : Int) := by omega
      have c7 : ((out ++ (⟨(H.hexL n).toArray⟩ : ByteArray)) ++ (⟨#[13, 10]⟩ : ByteArray)).size + (s.extract i (i + n)).size ≤ 9223372036854775807 := by rw [ByteArray.size_append, ByteArray.size_append]; omega
      have c8 : (((out ++ (⟨(H.hexL n).toArray⟩ : ByteArray)) ++ (⟨#[13, 10]⟩ : ByteArray)) ++ s.extract i (i + n)).size + 2 ≤ 9223372036854775807 := by rw [ByteArray.size_append, ByteArray.size_append, ByteArray.size_append]; omega
      refine ⟨R, ?_, fun K hK => ?_⟩
      · rw [lockageref08_Encode.l0, if_pos c1, HW.out, HMN.out, ht, Option.bind_some, if_pos c2, if_pos c3, if_pos c4, HW2.out, if_pos c5, if_pos c6, Int.toNat_natCast, Int.toNat_natCast, if_pos c7, if_pos c8, HW3.out, hout, r1]
      · obtain ⟨K, rfl⟩ : ∃ j, K = j + 1 := ⟨K - 1, by omega⟩
        rw [chunk_Encode.l0, if_pos (by omega), if_pos (by omega), hsz, ← hn]
        have := r2 K (by omega)
        rw [← hnext, hsz] at this
        exact this
theorem both_enc (s : ByteArray) (h : s.size ≤ 300 ∨ 4000 < s.size) (z : Int) (k : Nat) (hk : 5000 ≤ k) : ∃ R e, chunk_Encode.f k s z = some (R, e) ∧ lockageref08_Encode.f k s z = some (R, e) := by
  obtain ⟨k, rfl⟩ : ∃ j, k = j + 1 := ⟨k - 1, by omega⟩
  by_cases h1 : z < 1
  · refine ⟨⟨#[]⟩, 1, by unfold chunk_Encode.f; rw [if_pos h1], ?_⟩
    unfold lockageref08_Encode.f
    rw [if_pos h1, lockageref08_Encode.j0, if_pos rfl]
  by_cases h2 : z > 4000
  · refine ⟨⟨#[]⟩, 1, by unfold chunk_Encode.f; rw [if_neg h1, if_pos h2], ?_⟩
    unfold lockageref08_Encode.f
    rw [if_neg h1, if_pos h2, lockageref08_Encode.j0, if_pos rfl]
  by_cases h3 : (s.size : Int) > 4000
  · refine ⟨⟨#[]⟩, 1, by unfold chunk_Encode.f; rw [if_neg h1, if_neg h2, if_pos h3], ?_⟩
    unfold lockageref08_Encode.f
    rw [if_neg h1, if_neg h2, decide_eq_true h3, lockageref08_Encode.j0, if_pos rfl]
  obtain ⟨R, r1, r2⟩ := ref_enc z (by omega) s (by omega) s.size 0 k ⟨#[]⟩ (by omega) (by show 0 + _ ≤ _; omega) (by omega) (by omega)
  have e : s.extract 0 s.size = s := H.ba_ext (by rw [ext_drop, List.drop_zero])
  rw [e] at r2
  refine ⟨R, 0, ?_, ?_⟩
  · unfold chunk_Encode.f
    rw [if_neg h1, if_neg h2, if_neg h3, r2 (k + 1) (by omega), Option.bind_some]
  · unfold lockageref08_Encode.f
    rw [if_neg h1, if_neg h2, decide_eq_false h3, lockageref08_Encode.j0, if_neg (by decide)]
    exact r1
theorem ChunkEncode_ok (a0 : ByteArray) (h0 : a0.size ≤ 140737488351232) (a1 : Int) (w1 : (Lit.int .i64 a1).wf = true) (a2 : Int) (w2 : (Lit.int .u8 a2).wf = true) : ∃ k, lockagelaw08_ChunkEncode.f k a0 a1 a2 = some true := by
  have hA : ∀ k, 100 ≤ k → lockagelaw08_awake.f k = some true := fun k hk => by unfold lockagelaw08_awake.f; rw [if_pos hk]
  have key : ∀ k, 6000 ≤ k → (a0.size ≤ 300 ∨ 4000 < a0.size) → lockagelaw08_ChunkEncode.j0 (k + 4) a0 a1 a2 false = some true := fun k hk h => by
    rw [lockagelaw08_ChunkEncode.j0, if_neg (by decide), Option.bind_some]
    generalize wrap64 (1 + wrap64 a2) = z
    obtain ⟨R, e, b1, b2⟩ := both_enc a0 h a1 (k + 2) (by omega)
    obtain ⟨R', e', b3, b4⟩ := both_enc a0 h z (k + 1) (by omega)
    have hw1 : wrap64 ((0 : Int) + 1) = 1 := by unfold wrap64; decide
    have hw2 : wrap64 ((1 : Int) + 1) = 2 := by unfold wrap64; decide
    have q0 : rd [a1, z] 0 = a1 := rfl
    have q1 : rd [a1, z] 1 = z := rfl
    have ql : (([a1, z] : List Int).length : Int) = 2 := rfl
    rw [ql, lockagelaw08_ChunkEncode.l0, if_pos (by decide), if_pos (by decide), ql, if_pos (by decide), q0, b1, Option.bind_some, b2, Option.bind_some]
    dsimp only
    rw [if_pos rfl, if_pos rfl, hw1, lockagelaw08_ChunkEncode.l0, if_pos (by decide), if_pos (by decide), ql, if_pos (by decide), q1, b3, Option.bind_some, b4, Option.bind_some]
    dsimp only
    rw [if_pos rfl, if_pos rfl, hw2, lockagelaw08_ChunkEncode.l0, if_neg (by decide), hA _ (by omega), Option.bind_some]
  refine ⟨6000 + 4, ?_⟩
  unfold lockagelaw08_ChunkEncode.f
  by_cases h : (a0.size : Int) > 300
  · rw [if_pos h]
    by_cases h2 : (a0.size : Int) ≤ 4000
    · rw [decide_eq_true h2, lockagelaw08_ChunkEncode.j0, if_pos rfl, hA _ (by decide), Option.bind_some]
    · rw [decide_eq_false h2]
      exact key 6000 (Nat.le_refl _) (.inr (by omega))
  · rw [if_neg h]
    exact key 6000 (Nat.le_refl _) (.inl (by omega))
end Go.Proofs.YthemlbefkdmegaaDoor.P
